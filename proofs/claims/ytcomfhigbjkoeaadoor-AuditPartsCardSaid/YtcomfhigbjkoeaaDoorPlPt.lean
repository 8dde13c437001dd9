/-
  The plain law of AuditParts: the faults of a beginning of a record are the first ones of it. Conditions: as each theorem says.
-/
import Derived.Test.YtcomfhigbjkoeaaDoorPlOne
namespace Go.Proofs.YtcomfhigbjkoeaaDoor
open Go.RowKit

theorem checkLoop_err : ∀ (l : List (MOp × MRp)) (s : Au) (i : Nat) (acc : List (Int × Int)), (checkLoop s i l acc).2 ≠ 0 → (checkLoop s i l acc).1 = []
  | [], _, _, _, h => absurd rfl h
  | p :: l, s, i, acc, h => by
    simp only [checkLoop] at h ⊢
    split at h
    · rename_i h1; rw [if_pos h1]
    · rename_i h1; rw [if_neg h1]; exact checkLoop_err l _ _ _ h
theorem checkA_err {x : Ve} {l : List (MOp × MRp)} (h : (checkA x l).2 ≠ 0) : (checkA x l).1 = [] := by
  unfold checkA at h ⊢
  split at h
  · rename_i h1; rw [if_pos h1]
  · rename_i h1
    rw [if_neg h1]
    split at h
    · rename_i h2; rw [if_pos h2]
    · rename_i h2; rw [if_neg h2]; exact checkLoop_err _ _ _ _ h

/-- One step of the record. -/
theorem checkLoop_cons {s : Au} {i : Nat} {p : MOp × MRp} {l : List (MOp × MRp)} {acc : List (Int × Int)} (h : (checkLoop s i (p :: l) acc).2 = 0) :
    (readA s p.1 p.2).2.1 = 0 ∧ checkLoop s i (p :: l) acc = checkLoop (readA s p.1 p.2).2.2 (i + 1) l (if (readA s p.1 p.2).1 ≠ 0 then acc ++ [((i : Int), (readA s p.1 p.2).1)] else acc) := by
  simp only [checkLoop] at h ⊢
  split at h
  · rename_i h1; exact absurd h h1
  · rename_i h1; rw [if_neg h1]; exact ⟨Decidable.not_not.1 h1, rfl⟩

theorem checkLoop_more : ∀ (l : List (MOp × MRp)) (s : Au) (i : Nat) (acc : List (Int × Int)), (checkLoop s i l acc).2 = 0 → ∃ rest, (checkLoop s i l acc).1 = acc ++ rest ∧ ∀ f, f ∈ rest → (i : Int) ≤ f.1
  | [], _, _, acc, _ => ⟨[], by simp [checkLoop], fun f h => by simp at h⟩
  | p :: l, s, i, acc, h => by
    obtain ⟨_, e⟩ := checkLoop_cons h
    rw [e] at h ⊢
    obtain ⟨rest, h1, h2⟩ := checkLoop_more l _ _ _ h
    rw [h1]
    split
    · refine ⟨((i : Int), (readA s p.1 p.2).1) :: rest, by simp, fun f hf => ?_⟩
      rcases List.mem_cons.1 hf with rfl | hf
      · exact Int.le_refl _
      · have := h2 f hf; omega
    · exact ⟨rest, rfl, fun f hf => by have := h2 f hf; omega⟩

theorem checkLoop_part : ∀ (l : List (MOp × MRp)) (s : Au) (i k : Nat) (acc : List (Int × Int)), (checkLoop s i l acc).2 = 0 → k ≤ l.length →
    ∃ mid rest, checkLoop s i (l.take k) acc = (mid, 0) ∧ (checkLoop s i l acc).1 = mid ++ rest ∧ ∀ f, f ∈ rest → (i : Int) + k ≤ f.1
  | l, s, i, 0, acc, h, _ => by
    obtain ⟨rest, h1, h2⟩ := checkLoop_more l s i acc h
    exact ⟨acc, rest, rfl, h1, fun f hf => by have := h2 f hf; omega⟩
  | [], _, _, k + 1, _, _, hk => absurd hk (by simp)
  | p :: l, s, i, k + 1, acc, h, hk => by
    obtain ⟨h0, e⟩ := checkLoop_cons h
    rw [e] at h ⊢
    obtain ⟨mid, rest, h1, h2, h3⟩ := checkLoop_part l _ _ k _ h (by simpa using hk)
    refine ⟨mid, rest, ?_, h2, fun f hf => by have := h3 f hf; omega⟩
    rw [List.take_succ_cons, ← h1]
    simp only [checkLoop]
    rw [if_neg (by simp [h0])]

theorem checkA_part {x : Ve} {l : List (MOp × MRp)} (h : (checkA x l).2 = 0) {k : Nat} (hk : k ≤ l.length) :
    ∃ mid rest, checkA x (l.take k) = (mid, 0) ∧ (checkA x l).1 = mid ++ rest ∧ ∀ f, f ∈ rest → (k : Int) ≤ f.1 := by
  unfold checkA at h ⊢
  split at h
  · rename_i h1; exact absurd h h1
  rename_i h1
  rw [if_neg h1, if_neg h1]
  split at h
  · exact absurd h (by simp)
  rename_i h2
  rw [if_neg h2, if_neg (by rw [List.length_take]; omega)]
  obtain ⟨mid, rest, a1, a2, a3⟩ := checkLoop_part l _ 0 k [] h hk
  exact ⟨mid, rest, a1, a2, fun f hf => by have := a3 f hf; omega⟩

/-- What holds ahead of each step: what is known, and the faults so far. -/
def PartI (x : Ve) (l : List (MOp × MRp)) (i : Nat) (s : Au) (acc : List (Int × Int)) : Prop := Aok s ∧ s.ve = x ∧ checkA x l = checkLoop s i (l.drop i) acc
theorem part_start {x : Ve} {l : List (MOp × MRp)} (h : (checkA x l).2 = 0) : (newA x).2 = 0 ∧ PartI x l 0 (newA x).1 [] := by
  have h' := h
  unfold checkA at h
  split at h
  · rename_i h1; exact absurd h h1
  rename_i h1
  split at h
  · exact absurd h (by simp)
  rename_i h2
  have h0 : (newA x).2 = 0 := Decidable.not_not.1 h1
  refine ⟨h0, new_ok h0, ?_, by unfold checkA; rw [if_neg h1, if_neg h2]; rfl⟩
  unfold newA at h0 ⊢
  split at h0
  · rename_i h9; exact absurd h0 h9
  · rename_i h9; rw [if_neg h9]
theorem part_step {x : Ve} {l : List (MOp × MRp)} {i : Nat} {s : Au} {acc : List (Int × Int)} (h : (checkA x l).2 = 0) (hI : PartI x l i s acc) (hi : i < l.length) :
    (readA s l[i].1 l[i].2).2.1 = 0 ∧ PartI x l (i + 1) (readA s l[i].1 l[i].2).2.2 (if (readA s l[i].1 l[i].2).1 ≠ 0 then acc ++ [((i : Int), (readA s l[i].1 l[i].2).1)] else acc) ∧
      ((readA s l[i].1 l[i].2).1 ≠ 0 → (checkA x l).1[acc.length]? = some ((i : Int), (readA s l[i].1 l[i].2).1)) := by
  obtain ⟨h1, h2, h3⟩ := hI
  rw [List.drop_eq_getElem_cons hi] at h3
  rw [h3] at h
  obtain ⟨h4, h5⟩ := checkLoop_cons h
  refine ⟨h4, ⟨read_ok h1, by rw [read_ve]; exact h2, h3.trans h5⟩, fun hr => ?_⟩
  rw [h5] at h
  obtain ⟨rest, h6, _⟩ := checkLoop_more _ _ _ _ h
  rw [h3, h5, h6, if_pos hr]
  simp
theorem part_end {x : Ve} {l : List (MOp × MRp)} {s : Au} {acc : List (Int × Int)} (hI : PartI x l l.length s acc) : (checkA x l).1 = acc := by
  obtain ⟨_, _, h3⟩ := hI
  rw [h3, List.drop_length]
  rfl
theorem readA_same {s : Au} {op : MOp} {rp : MRp} (h : (readA s op rp).1 ≠ 0 ∨ rp.err ≠ 0) : (readA s op rp).2.2 = s := by
  unfold readA at h ⊢
  split at h
  · rename_i h1; rw [if_pos h1]
  · rename_i h1
    rw [if_neg h1]
    dsimp only at h ⊢
    rw [if_neg (by rintro ⟨a, b⟩; rcases h with h | h <;> contradiction)]
end Go.Proofs.YtcomfhigbjkoeaaDoor
