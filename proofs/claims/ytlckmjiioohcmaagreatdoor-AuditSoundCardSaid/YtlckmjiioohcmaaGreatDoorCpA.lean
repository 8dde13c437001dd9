/-
  No statement is proved here: 'copy' over a whole row, of elements of any size, as a law for the walk. Conditions: as each theorem says.
-/
import Derived.Test.YtlckmjiioohcmaaGreatDoorLib
import Derived.Laws.CopyOwn
namespace Go.Proofs.YtlckmjiioohcmaaGreatDoor
open Go.RowKit
section
variable {P : Program} {w : World}
theorem run_copy_all (w : World) (dT sT ty elem : TypeId) (sz m g dc : Nat) (sp : Option Addr) (sc : Nat) (cur : Array Value) (t : TypeId) (cs : List Value) (hu : P.underlying dT = some (.slice elem)) (hs : (P.info? elem).map (·.size) = some sz)
    (hg : w.heap[g]? = some (.cells cur t (0, 0))) (hcs : cs.length = m * sz) (hcur : cur.size = m * sz) (hsrc : cs ≠ [] → ∃ a, sp = some a ∧ ∀ j v, cs[j]? = some v → w.cell? (a.add j) = some v) (h1 : ∀ v ∈ cs, v.oneCell' = true) :
    (Builtin.copy_ #[dT, sT] ty #[.slice (some ⟨g, 0, none⟩) m dc, .slice sp m sc]).run P w = .ok (goInt m) (w.setRow g cs.toArray) := by
  have hst := run_storeCells_at P g 0 t cs 0 cur w hg (by omega) h1
  have hrow : (cur.toList.take 0 ++ cs ++ cur.toList.drop (0 + cs.length)) = cs := by
    rw [List.drop_of_length_le (by simp; omega)]; simp
  simp only [Nat.add_zero] at hst
  rw [hrow] at hst
  cases hq : P.info? elem with
  | none => simp [hq] at hs
  | some i =>
    have hi : i.size = sz := by simpa [hq] using hs
    have hf : (Builtin.firstCells sz m (.slice sp m sc)).run P w = .ok cs.toArray w := by
      by_cases h0 : cs = []
      · subst h0
        cases sp with
        | none => exact run_firstCells_none _ _ _ _ _
        | some a => exact run_firstCells_some w sz m a m sc [] hcs (fun j v h => by simp at h)
      · obtain ⟨a, rfl, ha⟩ := hsrc h0
        exact run_firstCells_some w sz m a m sc cs hcs ha
    simp [Builtin.copy_, run_underlying hu, Builtin.lenOf, sizeOf, typeInfo, hq, hi, hf, hst]
theorem wpList_copy_all {ops : Array Oper} {rest : List Oper} {o : Oper} {a : Act} {Q : Exit → Act → World → Prop} (hgd : o.guard = none) (d s : Operand) (dT sT : TypeId)
    (ho : o.op = .call { callee := .builtin .copy, args := #[d, s], argTypes := #[dT, sT] }) (elem : TypeId) (sz m g dc : Nat) (sp : Option Addr) (sc : Nat) (cur : Array Value) (t : TypeId) (cs : List Value) (hu : P.underlying dT = some (.slice elem)) (hsz : (P.info? elem).map (·.size) = some sz)
    (hd : a.eval d = .slice (some ⟨g, 0, none⟩) m dc) (hs : a.eval s = .slice sp m sc)
    (hg : w.heap[g]? = some (.cells cur t (0, 0))) (hcs : cs.length = m * sz) (hcur : cur.size = m * sz) (hsrc : cs ≠ [] → ∃ a, sp = some a ∧ ∀ j v, cs[j]? = some v → w.cell? (a.add j) = some v) (h1 : ∀ v ∈ cs, v.oneCell' = true)
    (h : wpList P ops Q rest (a.put o.dst (goInt m)) (w.setRow g cs.toArray)) : wpList P ops Q (o :: rest) a w := by
 refine wpList_plain hgd fun K hK => ?_
 have hrun := run_copy_all (P := P) w dT sT o.type elem sz m g dc sp sc cur t cs hu hsz hg hcs hcur hsrc h1
 unfold Oper.wp
 simp [execOp, ho, resolve, invoke, builtin, hd, hs, hrun, Result.andThen]
 exact hK _ _ h
end
theorem Sl.cells {α : Type} {R : Rep α} {w : World} {A : Option Addr} {n c : Nat} {xs : List α} (h : Sl R w (.slice A n c) xs) : ∃ cs, R.many w cs xs ∧ (cs ≠ [] → ∃ a, A = some a ∧ ∀ j v, cs[j]? = some v → w.cell? (a.add j) = some v) := by
 obtain ⟨A', c', he, h1, h2, h3⟩ := h
 injection he with e1 e2 e3
 subst e1 e2 e3
 rcases h3 with ⟨h0, _⟩ | ⟨b, off, rfl, hlt, hcells⟩
 ·obtain rfl := List.eq_nil_of_length_eq_zero h0
  exact ⟨[], rfl, fun h => absurd rfl h⟩
 ·obtain ⟨more, hm, hat⟩ := gather hcells
  exact ⟨more, hm, fun _ => ⟨_, rfl, fun j v hv => by rw [addr_add]; exact hat j v hv⟩⟩
theorem own_filled {α : Type} {R : Rep α} {w : World} {e : TypeId} {B g n : Nat} {cs : List Value} {xs : List α} (hB : B ≤ g) (hg : w.heap[g]? = some (.cells cs.toArray e (0, 0))) (hm : R.many w cs xs) (hn : n = xs.length) (hs : n ≤ 1000000) : Own R e B w (.slice (some ⟨g, 0, none⟩) n n) xs := by
 subst hn
 have hl := R.many_len hm
 exact ⟨cs, ⟨hl, .inr ⟨g, xs.length, cs.toArray, rfl, hB, hg, Nat.le_refl _, by simp only [maxLen]; omega, by simpa using hl, by simp [← hl]⟩⟩, hm⟩
end Go.Proofs.YtlckmjiioohcmaaGreatDoor
