/-
  Plain law, no Go in sight, second part: of a state that Check lets by, what Cycle answers is a cycle, from its least task on; if there is none, each task that waits comes to 0. Conditions: as each theorem says.
-/
import Derived.Test.YtgmjfmajdnoogaaPlCyc
namespace Go.Proofs.Ytgmjfmajdnoogaa

theorem asc_lt : ∀ {l : List Wt}, asc l = true → ∀ i j, (hij : i < j) → (hj : j < l.length) → (l[i]'(by omega)).task < l[j].task
  | l, ha, i, j, hij, hj => by
    obtain ⟨d, rfl⟩ : ∃ d, j = i + 1 + d := ⟨j - i - 1, by omega⟩
    induction d with
    | zero => exact asc_get ha i hj
    | succ d ih =>
      have h1 := ih (by omega) (by omega)
      have h2 := asc_get ha (i + 1 + d) (by omega)
      have : (l[i + 1 + (d + 1)]'hj).task = (l[i + 1 + d + 1]'(by omega)).task := by simp only [show i + 1 + (d + 1) = i + 1 + d + 1 from by omega]
      omega

theorem asc_inj {l : List Wt} (ha : asc l = true) {x y : Wt} (hx : x ∈ l) (hy : y ∈ l) (e : x.task = y.task) : x = y := by
  obtain ⟨i, hi, rfl⟩ := List.getElem_of_mem hx
  obtain ⟨j, hj, rfl⟩ := List.getElem_of_mem hy
  rcases Nat.lt_trichotomy i j with h | h | h
  · have := asc_lt ha i j h hj; omega
  · subst h; rfl
  · have := asc_lt ha j i h hi; omega

theorem asc_tail {x : Wt} {l : List Wt} (h : asc (x :: l) = true) : asc l = true := by
  cases l with
  | nil => rfl
  | cons y l => simp only [asc, Bool.and_eq_true] at h; exact h.2

theorem fold_find (hs : List Int) : ∀ (l : List Wt) (f : Int → Int) (t : Int), asc l = true → l.foldl (fun f x => upd f x.task (hs.getD x.lock.toNat 0)) f t = match l.find? (fun x => x.task == t) with
    | some x => hs.getD x.lock.toNat 0
    | none => f t
  | [], _, _, _ => rfl
  | x :: l, f, t, ha => by
    rw [List.foldl_cons, fold_find hs l _ t (asc_tail ha), List.find?_cons]
    by_cases e : x.task = t
    · have hn : l.find? (fun y => y.task == t) = none := by
        rw [List.find?_eq_none]
        intro y hy
        obtain ⟨j, hj, rfl⟩ := List.getElem_of_mem hy
        have := asc_lt ha 0 (j + 1) (by omega) (by simpa using hj)
        simp at this ⊢
        omega
      rw [hn]
      simp [e, upd]
    · have : (x.task == t) = false := by simpa using e
      rw [this]
      simp only []
      split
      · rfl
      · simp [upd, Ne.symm e]

theorem nxt_aft {s : St} (h : chk s = 0) : nxt s.hs s.ws = aft s := by
  obtain ⟨_, _, _, _, ha⟩ := chk_ok h
  funext t
  rw [nxt, fold_find _ _ _ _ ha, aft]
  cases s.ws.find? (fun x => x.task == t) <;> rfl

theorem aft_zero {s : St} (h : chk s = 0) : aft s 0 = 0 := by
  have hn : s.ws.find? (fun x => x.task == 0) = none := by
    rw [List.find?_eq_none]
    intro y hy
    obtain ⟨j, hj, rfl⟩ := List.getElem_of_mem hy
    have := tsk_bd (lock_in h hj).1
    simp
    omega
  rw [aft, hn]

theorem aft_mem {s : St} {t : Int} (h : aft s t ≠ 0) : ∃ x, x ∈ s.ws ∧ x.task = t := by
  unfold aft at h
  split at h
  · rename_i x hx
    exact ⟨x, List.mem_of_find?_eq_some hx, by simpa using List.find?_some hx⟩
  · exact absurd rfl h

/-- The lists of Cycle, as the law asks for them. -/
theorem cyc_some {s : St} (h : chk s = 0) {c : List Int} (hc : (s.ws.findSome? (chaseW (nxt s.hs s.ws) s.ws.length)).getD [] = c) (hne : 0 < c.length) :
    ∀ i, (hi : i < c.length) → c[0] ≤ c[i] ∧ (0 < i → c[i] ≠ c[0]) ∧ aft s c[i] = c[(i + 1) % c.length]'(Nat.mod_lt _ hne) := by
  rw [nxt_aft h] at hc
  cases hf : s.ws.findSome? (chaseW (aft s) s.ws.length) with
  | none => rw [hf] at hc; subst hc; simp at hne
  | some r =>
    rw [hf] at hc
    simp only [Option.getD_some] at hc
    subst hc
    obtain ⟨l1, x, l2, hl, hx, hbefore⟩ := List.findSome?_eq_some_iff.1 hf
    obtain ⟨P, hP, e, hn, hr⟩ := chaseW_some hx
    have f0 := aft_zero h
    obtain ⟨_, _, _, _, ha⟩ := chk_ok h
    have hxm : x ∈ s.ws := by rw [hl]; simp
    obtain ⟨k, hk, hkx⟩ := List.getElem_of_mem hxm
    have hx0 : x.task ≠ 0 := by have := tsk_bd (lock_in h hk).1; rw [hkx] at this; omega
    have hlen : r.length = P := by rw [hr]; simp
    have hget : ∀ i, (hi : i < r.length) → r[i] = it (aft s) i x.task := fun i hi => by simp [hr]
    have hnz : ∀ i, it (aft s) i x.task ≠ 0 := fun i h0 => by
      have h3 : it (aft s) (i + (P * (i + 1) - i)) x.task = 0 := by rw [it_add, h0, it_zero f0]
      have h4 : i ≤ P * (i + 1) := Nat.le_trans (Nat.le_succ i) (Nat.le_mul_of_pos_left _ hP)
      rw [show i + (P * (i + 1) - i) = P * (i + 1) from by omega] at h3
      have h5 : ∀ m, it (aft s) (P * m) x.task = x.task := by
        intro m
        induction m with
        | zero => rfl
        | succ m ih => rw [Nat.mul_succ, it_add, ih, e]
      rw [h5] at h3
      exact hx0 h3
    -- the length of the cycle is at most the number of waits
    have hPle : P ≤ s.ws.length := by
      rcases Nat.lt_or_ge s.ws.length P with hlt | hge
      · exfalso
        obtain ⟨i, j, h1, h2, h3⟩ := pigeon s.ws.length (s.ws.map (·.task)) (fun i => it (aft s) i x.task) (by simp) fun i _ => by
          obtain ⟨y, hy, hyt⟩ := aft_mem (s := s) (t := it (aft s) i x.task) (by rw [← it_succ (aft s)]; exact hnz _)
          exact List.mem_map.2 ⟨y, hy, hyt⟩
        have h4 : it (aft s) (i + (P - j)) x.task = x.task := by
          rw [it_add]
          have h3' : it (aft s) i x.task = it (aft s) j x.task := h3
          rw [h3', ← it_add, show j + (P - j) = P from by omega, e]
        exact (hn (i + (P - j)) (by omega) (by omega)).1 h4
      · exact hge
    intro i hi
    refine ⟨?_, fun hi0 => ?_, ?_⟩
    · rw [hget 0 hne, hget i hi]
      show x.task ≤ _
      obtain ⟨y, hy, hyt⟩ := aft_mem (s := s) (t := it (aft s) i x.task) (by rw [← it_succ (aft s)]; exact hnz _)
      obtain ⟨r', hr'⟩ := chaseW_of f0 (N := s.ws.length) (x := y) (q := P) (by rw [hyt]; exact hnz i) hP (by omega) (by rw [hyt, ← it_add, Nat.add_comm, it_add, e])
      rw [← hyt]
      rw [hl] at hy
      rcases List.mem_append.1 hy with hy | hy
      · rw [hbefore y hy] at hr'; cases hr'
      · rcases List.mem_cons.1 hy with hy | hy
        · rw [hy]; exact Int.le_refl _
        · obtain ⟨j, hj, rfl⟩ := List.getElem_of_mem hy
          rw [hl] at ha
          have hlt := asc_lt ha l1.length (l1.length + (j + 1)) (by omega) (by simp; omega)
          simp only [List.getElem_append_right (Nat.le_refl l1.length), Nat.sub_self, List.getElem_cons_zero] at hlt
          rw [List.getElem_append_right (by omega)] at hlt
          simp only [Nat.add_sub_cancel_left, List.getElem_cons_succ] at hlt
          omega
    · rw [hget 0 hne, hget i hi]
      exact (hn i hi0 (by omega)).1
    · rw [hget i hi, hget _ (Nat.mod_lt _ hne), ← it_succ (aft s), hlen]
      rcases Nat.lt_or_ge (i + 1) P with hlt | hge
      · rw [Nat.mod_eq_of_lt hlt]
      · have : i + 1 = P := by omega
        rw [this, Nat.mod_self, e]
        rfl

theorem cyc_none {s : St} (h : chk s = 0) (hc : (s.ws.findSome? (chaseW (nxt s.hs s.ws) s.ws.length)).getD [] = []) {x : Wt} (_hx : x ∈ s.ws) : it (aft s) (s.ws.length + 1) x.task = 0 := by
  rw [nxt_aft h] at hc
  have f0 := aft_zero h
  have hn : ∀ y, y ∈ s.ws → chaseW (aft s) s.ws.length y = none := by
    cases hf : s.ws.findSome? (chaseW (aft s) s.ws.length) with
    | none => exact List.findSome?_eq_none_iff.1 hf
    | some r =>
      rw [hf] at hc
      simp only [Option.getD_some] at hc
      subst hc
      obtain ⟨l1, y, l2, hl, hy, _⟩ := List.findSome?_eq_some_iff.1 hf
      obtain ⟨P, hP, _, _, hr⟩ := chaseW_some hy
      have := congrArg List.length hr
      simp at this
      omega
  rcases Decidable.em (it (aft s) (s.ws.length + 1) x.task = 0) with h1 | h1
  · exact h1
  · exfalso
    have hnz : ∀ i, i ≤ s.ws.length + 1 → it (aft s) i x.task ≠ 0 := fun i hi h0 => by
      apply h1
      rw [show s.ws.length + 1 = i + (s.ws.length + 1 - i) from by omega, it_add, h0, it_zero f0]
    obtain ⟨i, j, h2, h3, h4⟩ := pigeon s.ws.length (s.ws.map (·.task)) (fun i => it (aft s) i x.task) (by simp) fun i hi => by
      obtain ⟨y, hy, hyt⟩ := aft_mem (s := s) (t := it (aft s) i x.task) (by rw [← it_succ (aft s)]; exact hnz _ (by omega))
      exact List.mem_map.2 ⟨y, hy, hyt⟩
    have h4 : it (aft s) i x.task = it (aft s) j x.task := h4
    obtain ⟨y, hy, hyt⟩ := aft_mem (s := s) (t := it (aft s) i x.task) (by rw [← it_succ (aft s)]; exact hnz _ (by omega))
    obtain ⟨r, hr⟩ := chaseW_of f0 (N := s.ws.length) (x := y) (q := j - i) (by rw [hyt]; exact hnz i (by omega)) (by omega) (by omega) (by rw [hyt, ← it_add, show i + (j - i) = j from by omega, h4])
    rw [hn y hy] at hr
    cases hr
end Go.Proofs.Ytgmjfmajdnoogaa
