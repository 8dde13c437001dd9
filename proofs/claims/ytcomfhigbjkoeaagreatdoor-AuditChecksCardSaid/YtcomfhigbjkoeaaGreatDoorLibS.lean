/-
  No statement is proved here: a slice still reads as it did behind a store into a cell that is none of its own. Conditions: none.
-/
import Derived.Test.YtcomfhigbjkoeaaGreatDoorLibC
namespace Go.Proofs.YtcomfhigbjkoeaaGreatDoor
open Go.RowKit

theorem Sl.kept_set {α : Type} {R : Rep α} {w : World} {v : Value} {xs : List α} (h : Sl R w v xs) {g j : Nat} {u : Value} (a : Value) (hu : w.cell? ⟨g, j, .none⟩ = some u) (hno : ∀ cs x, R.is w cs x → u ∉ cs) (hf : R.flat) : Sl R (w.setCell ⟨g, j, .none⟩ a) v xs := by
  obtain ⟨A, c, rfl, hc, hm, h⟩ := h
  refine ⟨A, c, rfl, hc, hm, ?_⟩
  rcases h with h | ⟨b, off, rfl, hlt, h⟩
  · exact .inl h
  · refine .inr ⟨b, off, rfl, by simpa using hlt, fun i x hi => ?_⟩
    obtain ⟨cs, h1, h2⟩ := h i x hi
    refine ⟨cs, hf _ _ _ _ h1, fun k v hv => ?_⟩
    have h3 := h2 k v hv
    rw [World.cell?_setCell_other w _ _ a (fun e => ?_)]
    · exact h3
    · injection e with e1 e2
      subst e1 e2
      rw [hu] at h3
      injection h3 with h3
      subst h3
      exact hno cs x h1 (List.mem_of_getElem? hv)

/-- One block more. -/
theorem bal {a w : World} {o : Obj} (h : Below a.heap.size a w) : Below a.heap.size a (w.alloc o) := h.alloc h.size o

theorem sl_no_int {w : World} {A : Option Addr} {n c : Nat} : ∀ cs x, intR.is w cs x → Value.slice A n c ∉ cs := by
  rintro cs x ⟨rfl, _⟩ h
  simp at h
/-- Two cells of one block, both slices, are written: what reads numbers reads on. -/
theorem Sl.kept_put2 {α : Type} {R : Rep α} {w : World} {v : Value} {xs : List α} (h : Sl R w v xs) {g : Nat} {u1 u2 : Value} (a b : Value) (h1 : w.cell? ⟨g, 0, .none⟩ = some u1) (h2 : w.cell? ⟨g, 1, .none⟩ = some u2)
    (n1 : ∀ w cs x, R.is w cs x → u1 ∉ cs) (n2 : ∀ w cs x, R.is w cs x → u2 ∉ cs) (hf : R.flat) : Sl R ((w.setCell ⟨g, 0, .none⟩ a).setCell ⟨g, 1, .none⟩ b) v xs :=
  (h.kept_set a h1 (n1 _) hf).kept_set b (by rw [World.cell?_setCell_other w _ _ a (fun e => by injection e with _ e; cases e)]; exact h2) (n2 _) hf
end Go.Proofs.YtcomfhigbjkoeaaGreatDoor
