/-
  No statement is proved here: a region that draws its order, reads, and calls what makes memory and leaves the old memory alone: one walk in the order of the text. Conditions: none.
-/
import Derived.Test.YtcomfhigbjkoeaaGreatDoorLibC
namespace Go.Proofs.YtcomfhigbjkoeaaGreatDoor
open Go.RowKit

/-- A later world in which nothing that was there has turned. -/
structure Gp where
  d : Nat
  os : Array Obj
instance : Nonempty Gp := ⟨⟨0, #[]⟩⟩
def gro (w : World) (p : Gp) : World := { w with heap := w.heap ++ p.os, drawn := p.d }

theorem gro_below (w : World) (p : Gp) : Below w.heap.size w (gro w p) :=
  ⟨rfl, rfl, rfl, by simp [gro], fun k hk => by simp [gro, Array.getElem?_append_left hk]⟩

theorem below_gro {w w' : World} (h : Below w.heap.size w w') : ∃ p, w' = gro w p := by
  refine ⟨⟨w'.drawn, w'.heap.extract w.heap.size w'.heap.size⟩, ?_⟩
  have hh : w'.heap = w.heap ++ w'.heap.extract w.heap.size w'.heap.size := by
    apply Array.ext_getElem?
    intro i
    rcases Nat.lt_or_ge i w.heap.size with hi | hi
    · rw [h.block i hi, Array.getElem?_append_left hi]
    · rw [Array.getElem?_append_right hi, Array.getElem?_extract]
      split
      · congr 1; omega
      · rename_i hn
        rw [Array.getElem?_eq_none]
        have := h.size
        omega
  cases w'
  cases w
  simp only [gro]
  have h1 := h.os
  have h2 := h.tape
  have h3 := h.output
  simp only at h1 h2 h3 hh
  subst h1 h2 h3
  rw [← hh]

theorem gro_cell {w : World} {a : Addr} {v : Value} (h : w.cell? a = some v) (p : Gp) : (gro w p).cell? a = some v := cell_later (gro_below w p) h

/-- A callee that leaves the old memory alone, met in such a world. -/
theorem Calls.gro_of {P : Program} {f : FuncId} {args : Array Value} {w : World} {p : Gp} {v : Value}
    (h : Calls P f args (gro w p) fun e w' => e = .returned v ∧ Below (gro w p).heap.size (gro w p) w') : Calls P f args (gro w p) fun e w'' => e = .returned v ∧ ∃ p', w'' = gro w p' :=
  h.mono fun _ _ ⟨he, hb⟩ => ⟨he, below_gro ((gro_below w p).trans (hb.mono (gro_below w p).size))⟩

theorem wp_region_gro {P : Program} {id : Nat} {Q : Exit → Act → World → Prop} {a : Act} {w : World} {l : List Oper} (hm : P.follows .mixedOrders = true) (hB : Region.lexB .any l.toArray = true)
    (h : wpQuiet P l.toArray (fun w' => ∃ p, w' = gro w p) (fun a' => ∀ w', (∃ p, w' = gro w p) → Q .normal a' w') l a) : (Code.region id l.toArray true).wp P Q a w :=
  wp_region_quiet (C := fun w' => ∃ p, w' = gro w p) hm hB ⟨⟨w.drawn + 1, #[]⟩, by simp [gro]⟩ (by simpa using h)

/-- Behind such a region: some later world. -/
theorem gro_end {w : World} {T : World → Prop} (h : ∀ W, Below w.heap.size w W → T W) : ∀ w', (∃ p, w' = gro w p) → T w' := by
  rintro _ ⟨p, rfl⟩
  exact h _ (gro_below w p)
end Go.Proofs.YtcomfhigbjkoeaaGreatDoor
