/-
  Plain law, no Go in sight, third part: of a state that Check lets by, the document's Cycle (each task in turn, first to last) answers what Cycle answers. Conditions: as each theorem says.
-/
import Derived.Test.YtgmjfmajdnoogaaPlCycB
namespace Go.Proofs.Ytgmjfmajdnoogaa

/-- The document's chase: from a task on, until the first one comes again. -/
def rchase (f : Int → Int) (a : Int) : Nat → Int → List Int → Option (List Int)
  | 0, _, _ => none
  | g + 1, t, out => if t = 0 ∨ 200 < out.length then none else if t = a then some out else rchase f a g (f t) (out ++ [t])
def rone (s : St) (a : Int) : Option (List Int) := rchase (aft s) a 201 (aft s a) [a]
def rcycS (s : St) : List Int × Int := if chk s ≠ 0 then ([], chk s) else (((List.range 200).findSome? fun i : Nat => rone s ((i : Int) + 1)).getD [], 0)

theorem rchase_some {f : Int → Int} {a : Int} : ∀ {g : Nat} {t : Int} {out r : List Int}, rchase f a g t out = some r →
    ∃ p, p < g ∧ it f p t = a ∧ (∀ i, i < p → it f i t ≠ a ∧ it f i t ≠ 0) ∧ r = out ++ (List.range p).map (fun i => it f i t)
  | 0, _, _, _, h => by simp [rchase] at h
  | g + 1, t, out, r, h => by
    rw [rchase] at h
    split at h
    · cases h
    · rename_i h1
      split at h
      · rename_i h0
        injection h with h
        exact ⟨0, by omega, h0, fun i hi => by omega, by simp [h]⟩
      · rename_i h0
        obtain ⟨p, hp, e, hn, hr⟩ := rchase_some h
        refine ⟨p + 1, by omega, e, fun i hi => ?_, ?_⟩
        · cases i with
          | zero => exact ⟨h0, fun e => h1 (.inl e)⟩
          | succ i => exact hn i (by omega)
        · rw [hr, List.range_succ_eq_map, List.map_cons, List.append_assoc, List.singleton_append, List.map_map]
          rfl
theorem rchase_of {f : Int → Int} {a : Int} : ∀ {g p : Nat} {t : Int} {out : List Int}, p < g → it f p t = a → (∀ i, i ≤ p → it f i t ≠ 0 ∧ out.length + i ≤ 200) → ∃ r, rchase f a g t out = some r
  | 0, p, _, _, h, _, _ => by omega
  | g + 1, p, t, out, hp, e, hn => by
    rw [rchase]
    obtain ⟨h1, h2⟩ := hn 0 (by omega)
    rw [if_neg (by intro h; rcases h with h | h; exact h1 h; omega)]
    split
    · exact ⟨_, rfl⟩
    · rename_i h0
      cases p with
      | zero => exact absurd e h0
      | succ p =>
        exact rchase_of (p := p) (by omega) e fun i hi => by
          have := hn (i + 1) (by omega)
          exact ⟨this.1, by rw [List.length_append, List.length_singleton]; omega⟩

/-- A cycle is no longer than there are waits. -/
theorem cyc_len {s : St} (h : chk s = 0) {a : Int} (ha : a ≠ 0) {P : Nat} (hP : 1 ≤ P) (e : it (aft s) P a = a) (hn : ∀ i, 1 ≤ i → i < P → it (aft s) i a ≠ a) : P ≤ s.ws.length ∧ ∀ i, it (aft s) i a ≠ 0 := by
  have f0 := aft_zero h
  have hnz : ∀ i, it (aft s) i a ≠ 0 := fun i h0 => by
    have h3 : it (aft s) (i + (P * (i + 1) - i)) a = 0 := by rw [it_add, h0, it_zero f0]
    have h4 : i ≤ P * (i + 1) := Nat.le_trans (Nat.le_succ i) (Nat.le_mul_of_pos_left _ hP)
    rw [show i + (P * (i + 1) - i) = P * (i + 1) from by omega] at h3
    have h5 : ∀ m, it (aft s) (P * m) a = a := by
      intro m
      induction m with
      | zero => rfl
      | succ m ih => rw [Nat.mul_succ, it_add, ih, e]
    rw [h5] at h3
    exact ha h3
  refine ⟨?_, hnz⟩
  rcases Nat.lt_or_ge s.ws.length P with hlt | hge
  · exfalso
    obtain ⟨i, j, h1, h2, h3⟩ := pigeon s.ws.length (s.ws.map (·.task)) (fun i => it (aft s) i a) (by simp) fun i _ => by
      obtain ⟨y, hy, hyt⟩ := aft_mem (s := s) (t := it (aft s) i a) (by rw [← it_succ (aft s)]; exact hnz _)
      exact List.mem_map.2 ⟨y, hy, hyt⟩
    have h4 : it (aft s) (i + (P - j)) a = a := by
      rw [it_add]
      have h3' : it (aft s) i a = it (aft s) j a := h3
      rw [h3', ← it_add, show j + (P - j) = P from by omega, e]
    exact hn (i + (P - j)) (by omega) (by omega) h4
  · exact hge

/-- Of a task that waits, both find the same. -/
theorem rone_eq {s : St} (h : chk s = 0) {x : Wt} (hx : x ∈ s.ws) : rone s x.task = chaseW (aft s) s.ws.length x := by
  have f0 := aft_zero h
  obtain ⟨k, hk, hkx⟩ := List.getElem_of_mem hx
  have hx0 : x.task ≠ 0 := by have := tsk_bd (lock_in h hk).1; rw [hkx] at this; omega
  have hw : s.ws.length ≤ 200 := (chk_ok h).2.1
  cases h1 : rone s x.task with
  | some r =>
    obtain ⟨p, hp, e, hn, hr⟩ := rchase_some h1
    have e' : it (aft s) (p + 1) x.task = x.task := e
    obtain ⟨hle, hnz⟩ := cyc_len h hx0 (P := p + 1) (by omega) e' fun i hi hip => by
      obtain ⟨k, rfl⟩ : ∃ k, i = k + 1 := ⟨i - 1, by omega⟩
      exact (hn k (by omega)).1
    obtain ⟨r', hr'⟩ := chaseW_of f0 (N := s.ws.length) (x := x) (q := p + 1) hx0 (by omega) (by omega) e'
    rw [hr']
    obtain ⟨p', _, e2, hn2, hr2⟩ := chase_some hr'
    have : p = p' := by
      rcases Nat.lt_trichotomy p p' with h | h | h
      · exact absurd e (hn2 p h).1
      · exact h
      · exact absurd e2 (hn p' h).1
    rw [hr, hr2, this]
  | none =>
    cases h2 : chaseW (aft s) s.ws.length x with
    | none => rfl
    | some r =>
      obtain ⟨p, hp, e, hn, hr⟩ := chase_some h2
      have e' : it (aft s) (p + 1) x.task = x.task := e
      obtain ⟨hle, hnz⟩ := cyc_len h hx0 (P := p + 1) (by omega) e' fun i hi hip => by
        obtain ⟨k, rfl⟩ : ∃ k, i = k + 1 := ⟨i - 1, by omega⟩
        exact (hn k (by omega)).1
      obtain ⟨r', hr'⟩ := rchase_of (f := aft s) (a := x.task) (g := 201) (p := p) (t := aft s x.task) (out := [x.task]) (by omega) e fun i hi => ⟨hnz (i + 1), by simp; omega⟩
      rw [rone, hr'] at h1
      cases h1

theorem rone_off {s : St} {a : Int} (h : aft s a = 0) : rone s a = none := by
  rw [rone, rchase, h]
  simp

/-- The first hit in an interval is the first hit in an ascending list of it, if there is none off the list. -/
theorem find_asc {β : Type} (g : Int → Option β) : ∀ (n : Nat) (lo : Int) (l : List Wt), asc l = true → (∀ x, x ∈ l → lo ≤ x.task ∧ x.task < lo + n) → (∀ a, (∀ x, x ∈ l → x.task ≠ a) → lo ≤ a → g a = none) →
    (List.range n).findSome? (fun i : Nat => g (lo + (i : Int))) = l.findSome? fun x => g x.task
  | 0, lo, l, _, hin, _ => by
    cases l with
    | nil => rfl
    | cons x l => have := hin x (by simp); omega
  | n + 1, lo, l, ha, hin, hoff => by
    have hshift : ∀ l' : List Wt, asc l' = true → (∀ x, x ∈ l' → lo + 1 ≤ x.task ∧ x.task < lo + 1 + n) → (∀ a, (∀ x, x ∈ l' → x.task ≠ a) → lo + 1 ≤ a → g a = none) →
        ((List.range n).map Nat.succ).findSome? (fun i : Nat => g (lo + (i : Int))) = l'.findSome? fun x => g x.task := fun l' h1 h2 h3 => by
      rw [← find_asc g n (lo + 1) l' h1 h2 h3, List.findSome?_map]
      congr 1
      funext i
      show g (lo + ((i + 1 : Nat) : Int)) = g (lo + 1 + (i : Int))
      congr 1
      push_cast
      omega
    rw [List.range_succ_eq_map, List.findSome?_cons]
    cases l with
    | nil =>
      rw [show g (lo + ((0 : Nat) : Int)) = none from hoff _ (by simp) (by omega)]
      exact hshift [] ha (by simp) fun a h1 h2 => hoff a h1 (by omega)
    | cons x l =>
      by_cases e : x.task = lo
      · rw [List.findSome?_cons, show lo + ((0 : Nat) : Int) = x.task from by omega]
        cases hg : g x.task with
        | some r => rfl
        | none =>
          exact hshift l (asc_tail ha) (fun y hy => by
            have h1 := hin y (by simp [hy])
            obtain ⟨j, hj, rfl⟩ := List.getElem_of_mem hy
            have h2 := asc_lt ha 0 (j + 1) (by omega) (by simpa using hj)
            simp at h2
            omega) fun a h1 h2 => hoff a (fun y hy => by
              rcases List.mem_cons.1 hy with rfl | hy
              · omega
              · exact h1 y hy) (by omega)
      · rw [show g (lo + ((0 : Nat) : Int)) = none from hoff _ (fun y hy => by
          have h1 := hin x (by simp)
          rcases List.mem_cons.1 hy with rfl | hy
          · omega
          · obtain ⟨j, hj, rfl⟩ := List.getElem_of_mem hy
            have h2 := asc_lt ha 0 (j + 1) (by omega) (by simpa using hj)
            simp at h2
            omega) (by omega)]
        exact hshift (x :: l) ha (fun y hy => by
          have h1 := hin y hy
          have h3 := hin x (by simp)
          rcases List.mem_cons.1 hy with rfl | hy
          · omega
          · obtain ⟨j, hj, rfl⟩ := List.getElem_of_mem hy
            have h2 := asc_lt ha 0 (j + 1) (by omega) (by simpa using hj)
            simp at h2
            omega) fun a h1 h2 => hoff a h1 (by omega)

theorem rcyc_eq (s : St) : rcycS s = cycS s := by
  unfold rcycS cycS
  by_cases h : chk s = 0
  · rw [if_neg (by simpa using h), if_neg (by simpa using h), nxt_aft h]
    obtain ⟨_, _, _, _, ha⟩ := chk_ok h
    have h1 : (List.range 200).findSome? (fun i : Nat => rone s ((i : Int) + 1)) = s.ws.findSome? fun x => rone s x.task := by
      rw [← find_asc (rone s) 200 1 s.ws ha (fun x hx => by
        obtain ⟨k, hk, rfl⟩ := List.getElem_of_mem hx
        have := tsk_bd (lock_in h hk).1
        omega) fun a h1 _ => rone_off (Decidable.byContradiction fun h0 => by
          obtain ⟨x, hx, e⟩ := aft_mem h0
          exact h1 x hx e)]
      congr 1
      funext i
      rw [Int.add_comm]
    rw [h1]
    have h2 : s.ws.findSome? (fun x => rone s x.task) = s.ws.findSome? (chaseW (aft s) s.ws.length) := by
      have hgen : ∀ l : List Wt, (∀ x, x ∈ l → x ∈ s.ws) → l.findSome? (fun x => rone s x.task) = l.findSome? (chaseW (aft s) s.ws.length) := by
        intro l
        induction l with
        | nil => exact fun _ => rfl
        | cons x l ih =>
          intro hl
          rw [List.findSome?_cons, List.findSome?_cons, rone_eq h (hl x (by simp)), ih fun y hy => hl y (by simp [hy])]
      exact hgen s.ws fun x hx => hx
    rw [h2]
  · rw [if_pos h, if_pos h]
end Go.Proofs.Ytgmjfmajdnoogaa
