/-
  Plain laws of LocksOne and LocksOrder, of states that calls lead to. Conditions: as each theorem says.
-/
import Derived.Test.YtgmjfmajdnoogaaLkY
import Derived.Test.YtgmjfmajdnoogaaLkO
import Derived.Test.YtgmjfmajdnoogaaLkM
import Derived.Test.YtgmjfmajdnoogaaPlCycB
namespace Go.Proofs.Ytgmjfmajdnoogaa

/-- What calls keep: Check lets the state by, and each wait is for a lock above all that its task holds. -/
def Inv (s : St) : Prop := chk s = 0 ∧ ∀ x, x ∈ s.ws → ∀ k, x.lock.toNat ≤ k → s.hs.getD k 0 ≠ x.task

theorem pw_len {hi : Int} : ∀ {l : List Wt} {lo : Int}, l.Pairwise (fun a b => a.task < b.task) → (∀ x, x ∈ l → lo ≤ x.task ∧ x.task ≤ hi) → lo ≤ hi + 1 → (l.length : Int) ≤ hi + 1 - lo
  | [], lo, _, _, h => by simp; omega
  | x :: l, lo, hp, hb, h => by
    have hx := hb x (by simp)
    obtain ⟨h1, h2⟩ := List.pairwise_cons.1 hp
    have := pw_len (lo := x.task + 1) h2 (fun y hy => ⟨by have := h1 y hy; omega, (hb y (by simp [hy])).2⟩) (by omega)
    simp only [List.length_cons]
    omega

theorem any_no {α : Type} {p : α → Bool} {l : List α} (h : ∀ x, x ∈ l → p x = false) : l.any p = false := by
  rw [Bool.eq_false_iff]
  intro h'
  obtain ⟨x, hx, hp⟩ := List.any_eq_true.1 h'
  rw [h x hx] at hp
  cases hp
theorem no_any {α : Type} {p : α → Bool} {l : List α} (h : l.any p = false) : ∀ x, x ∈ l → p x = false := fun x hx => by
  cases hp : p x with
  | false => rfl
  | true => rw [List.any_eq_true.2 ⟨x, hx, hp⟩] at h; cases h

theorem chk_of {s : St} (h1 : s.hs.length ≤ 64) (h2 : ∀ x, x ∈ s.hs → badH x = false) (h3 : ∀ x, x ∈ s.ws → badW s.hs.length x = false) (h4 : asc s.ws = true) : chk s = 0 := by
  have h5 : (s.ws.length : Int) ≤ 200 + 1 - 1 := pw_len (lo := 1) (hi := 200) (asc_pw h4) (fun x hx => by have := tsk_bd (badW_false (h3 x hx)).1; omega) (by decide)
  unfold chk
  rw [if_neg (by omega), any_no h2, any_no h3]
  simp [h4]

theorem mem_set {l : List Int} {k : Nat} {t x : Int} (h : x ∈ l.set k t) : x = t ∨ x ∈ l := (List.mem_or_eq_of_mem_set h).symm

theorem badH_tsk {t : Int} (h : tsk t = true) : badH t = false := by simp [badH, h]

theorem ins_cons (t l : Int) (x : Wt) (xs : List Wt) : ins t l (x :: xs) = if x.task < t then x :: ins t l xs else ⟨t, l⟩ :: x :: xs := by
  by_cases h : x.task < t <;> simp [ins, h]
theorem mem_ins {t l : Int} {y : Wt} : ∀ {xs : List Wt}, y ∈ ins t l xs → y = ⟨t, l⟩ ∨ y ∈ xs
  | [], h => by simpa [ins] using h
  | x :: xs, h => by
    rw [ins_cons] at h
    split at h
    · rcases List.mem_cons.1 h with h | h
      · exact .inr (by simp [h])
      · rcases mem_ins h with h | h
        · exact .inl h
        · exact .inr (by simp [h])
    · simpa using h
theorem ins_pw {t l : Int} : ∀ {xs : List Wt}, xs.Pairwise (fun a b => a.task < b.task) → (∀ x, x ∈ xs → x.task ≠ t) → (ins t l xs).Pairwise (fun a b => a.task < b.task)
  | [], _, _ => by simp [ins]
  | x :: xs, hp, hn => by
    obtain ⟨h1, h2⟩ := List.pairwise_cons.1 hp
    rw [ins_cons]
    split
    · rename_i hlt
      refine List.pairwise_cons.2 ⟨fun y hy => ?_, ins_pw h2 fun y hy => hn y (by simp [hy])⟩
      rcases mem_ins hy with rfl | hy
      · exact hlt
      · exact h1 y hy
    · rename_i hlt
      have hx := hn x (by simp)
      refine List.pairwise_cons.2 ⟨fun y hy => ?_, hp⟩
      rcases List.mem_cons.1 hy with rfl | hy
      · show t < _; omega
      · have := h1 y hy; show t < _; omega

theorem mem_drop_ {t : Int} {x : Wt} {l : List Wt} (h : x ∈ drop_ t l) : x ∈ l ∧ x.task ≠ t := by
  simpa [drop_] using h

theorem getD_set {l : List Int} {k j : Nat} {t : Int} : (l.set k t).getD j 0 = if k = j ∧ k < l.length then t else l.getD j 0 := by
  simp only [List.getD_eq_getElem?_getD, List.getElem?_set]
  by_cases h : k = j
  · subst h
    by_cases h' : k < l.length
    · simp [h']
    · simp [h']
  · simp [h]

theorem mayE_no {s : St} {t l : Int} (h : mayE s t l = 0) : ∀ k, l.toNat ≤ k → s.hs.getD k 0 ≠ t := by
  have ho := mayE_ok h
  have ht := tsk_bd ho.2.1
  unfold mayE at h
  split at h
  · contradiction
  split at h
  · simp at h
  split at h
  · simp at h
  · rename_i hany
    intro k hk e
    rw [List.getD_eq_getElem?_getD] at e
    by_cases hl : k < s.hs.length
    · rw [List.getElem?_eq_getElem hl] at e
      simp only [Option.getD_some] at e
      apply hany
      rw [List.any_eq_true]
      refine ⟨s.hs[k], ?_, by simp [e]⟩
      rw [List.mem_iff_getElem]
      exact ⟨k - l.toNat, by simp; omega, by simp [show l.toNat + (k - l.toNat) = k from by omega]⟩
    · rw [List.getElem?_eq_none (by omega)] at e
      simp at e
      omega

theorem chk_parts {s : St} (h : chk s = 0) : s.hs.length ≤ 64 ∧ (∀ x, x ∈ s.hs → badH x = false) ∧ (∀ x, x ∈ s.ws → badW s.hs.length x = false) ∧ asc s.ws = true := by
  obtain ⟨h1, _, h2, h3, h4⟩ := chk_ok h
  exact ⟨h1, no_any h2, no_any h3, h4⟩

theorem inv_new {n : Int} (h0 : 0 ≤ n) (h : n ≤ 64) : (newS n).2 = 0 ∧ Inv (newS n).1 := by
  rw [newS, if_neg (by omega)]
  refine ⟨rfl, chk_of (by simp; omega) (fun x hx => ?_) (fun x hx => by simp at hx) rfl, fun x hx => by simp at hx⟩
  rw [List.eq_of_mem_replicate hx]
  rfl

theorem inv_take {s : St} {t l : Int} (h : Inv s) : Inv (takeS s t l).1 := by
  unfold takeS
  split
  · exact h
  · rename_i hm
    split
    · exact h
    · have hm := Decidable.not_not.1 hm
      obtain ⟨_, ht, hl0, hl⟩ := mayE_ok hm
      obtain ⟨h1, h2, h3, h4⟩ := chk_parts h.1
      refine ⟨chk_of (by simpa using h1) (fun x hx => ?_) (fun x hx => by simpa using h3 x (mem_drop_ hx).1) (asc_drop h4), fun x hx k hk => ?_⟩
      · rcases mem_set hx with rfl | hx
        · exact badH_tsk ht
        · exact h2 x hx
      · obtain ⟨hx, hne⟩ := mem_drop_ hx
        show (s.hs.set l.toNat t).getD k 0 ≠ _
        rw [getD_set]
        split
        · exact fun e => hne e.symm
        · exact h.2 x hx k hk

theorem inv_give {s : St} {t l : Int} (h : Inv s) : Inv (giveS s t l).1 := by
  unfold giveS
  split
  · exact h
  · split
    · exact h
    · obtain ⟨h1, h2, h3, h4⟩ := chk_parts h.1
      refine ⟨chk_of (by simpa using h1) (fun x hx => ?_) (fun x hx => by simpa using h3 x (mem_drop_ hx).1) (asc_drop h4), fun x hx k hk => ?_⟩
      · rcases mem_set hx with rfl | hx
        · rfl
        · exact h2 x hx
      · obtain ⟨hx, hne⟩ := mem_drop_ hx
        show (s.hs.set l.toNat 0).getD k 0 ≠ _
        rw [getD_set]
        split
        · exact fun e => hne e.symm
        · exact h.2 x hx k hk

theorem inv_wait {s : St} {t l : Int} (h : Inv s) : Inv (waitS s t l).1 := by
  unfold waitS
  split
  · exact h
  · rename_i hm
    have hm := Decidable.not_not.1 hm
    obtain ⟨_, ht, hl0, hl⟩ := mayE_ok hm
    obtain ⟨h1, h2, h3, h4⟩ := chk_parts h.1
    refine ⟨chk_of h1 h2 (fun x hx => ?_) (pw_asc (ins_pw (asc_pw (asc_drop h4)) fun x hx => (mem_drop_ hx).2)), fun x hx k hk => ?_⟩
    · rcases mem_ins hx with rfl | hx
      · have := tsk_bd ht
        simp [badW, ht]
        omega
      · exact h3 x (mem_drop_ hx).1
    · rcases mem_ins hx with rfl | hx
      · exact mayE_no hm k hk
      · exact h.2 x (mem_drop_ hx).1 k hk

/-- A call of led's. -/
def ledS (s : St) (what t l : Int) : St := if what % 4 = 0 then (waitS s t l).1 else if what % 4 = 3 then (giveS s t l).1 else (takeS s t l).1
theorem inv_led {s : St} {what t l : Int} (h : Inv s) : Inv (ledS s what t l) := by
  unfold ledS
  split
  · exact inv_wait h
  · split
    · exact inv_give h
    · exact inv_take h

theorem find_asc_mem {l : List Wt} (ha : asc l = true) {x : Wt} (hx : x ∈ l) : l.find? (fun y => y.task == x.task) = some x := by
  cases hf : l.find? (fun y => y.task == x.task) with
  | none => exact absurd (List.find?_eq_none.1 hf x hx) (by simp)
  | some y =>
    have h1 := List.mem_of_find?_eq_some hf
    have h2 : y.task = x.task := by simpa using List.find?_some hf
    rw [asc_inj ha h1 hx h2]

theorem aft_wait {s : St} (h : chk s = 0) {x : Wt} (hx : x ∈ s.ws) : aft s x.task = s.hs.getD x.lock.toNat 0 := by
  unfold aft
  rw [find_asc_mem (chk_parts h).2.2.2 hx]

/-- Locks that tasks wait for ascend along the way: there is no cycle. -/
theorem ord_up {s : St} (h : Inv s) {x y : Wt} (hx : x ∈ s.ws) (hy : y ∈ s.ws) (e : aft s x.task = y.task) : x.lock.toNat < y.lock.toNat := by
  rw [aft_wait h.1 hx] at e
  rcases Nat.lt_or_ge x.lock.toNat y.lock.toNat with hl | hl
  · exact hl
  · exact absurd e (h.2 y hy _ hl)

theorem ord_step {s : St} (h : Inv s) : ∀ (m : Nat) {x y : Wt}, x ∈ s.ws → y ∈ s.ws → (∀ i, i ≤ m → ∃ z, z ∈ s.ws ∧ z.task = it (aft s) i x.task) → y.task = it (aft s) m x.task → x.lock.toNat + m ≤ y.lock.toNat
  | 0, x, y, hx, hy, _, e => by
    rw [asc_inj (chk_parts h.1).2.2.2 hx hy e.symm]
    exact Nat.le_refl _
  | m + 1, x, y, hx, hy, hz, e => by
    obtain ⟨z, hzm, hze⟩ := hz 1 (by omega)
    have h1 := ord_up h hx hzm hze.symm
    have hze' : z.task = aft s x.task := hze
    have h2 := ord_step h m hzm hy (fun i hi => by
      obtain ⟨u, hu, hue⟩ := hz (i + 1) (by omega)
      exact ⟨u, hu, by rw [hue, hze']; rfl⟩) (by rw [e, hze']; rfl)
    omega

theorem ord_cyc {s : St} (h : Inv s) : cycS s = ([], 0) := by
  unfold cycS
  rw [if_neg (by simp [h.1]), nxt_aft h.1]
  cases hf : s.ws.findSome? (chaseW (aft s) s.ws.length) with
  | none => rfl
  | some r =>
    exfalso
    obtain ⟨x, hx, hr⟩ := List.exists_of_findSome?_eq_some hf
    obtain ⟨P, hP, e, _, _⟩ := chaseW_some hr
    have f0 := aft_zero h.1
    have hx0 : x.task ≠ 0 := by have := tsk_bd (badW_false ((chk_parts h.1).2.2.1 x hx)).1; omega
    have hnz : ∀ i, it (aft s) i x.task ≠ 0 := fun i h0 => by
      have h3 : it (aft s) (i + (P * (i + 1) - i)) x.task = 0 := by rw [it_add, h0, it_zero f0]
      have h4 : i ≤ P * (i + 1) := Nat.le_trans (Nat.le_succ i) (Nat.le_mul_of_pos_left _ hP)
      rw [show i + (P * (i + 1) - i) = P * (i + 1) from by omega] at h3
      have h5 : ∀ m, it (aft s) (P * m) x.task = x.task := by
        intro m
        induction m with
        | zero => rfl
        | succ m ih => rw [Nat.mul_succ, it_add, ih, e]
      rw [h5] at h3
      exact hx0 h3
    have := ord_step h P hx hx (fun i _ => aft_mem (by rw [← it_succ (aft s)]; exact hnz _)) e.symm
    omega

/-- If all that wait are blocked, one of them is blocked by a task that does not wait. -/
theorem ord_end {s : St} (h : Inv s) (hne : s.ws ≠ []) : ∃ x, x ∈ s.ws ∧ ∀ y, y ∈ s.ws → y.task ≠ s.hs.getD x.lock.toNat 0 := by
  refine Classical.byContradiction fun hno => ?_
  have hall : ∀ x, x ∈ s.ws → ∃ y, y ∈ s.ws ∧ y.task = s.hs.getD x.lock.toNat 0 := fun x hx => Classical.byContradiction fun hn => hno ⟨x, hx, fun y hy e => hn ⟨y, hy, e⟩⟩
  obtain ⟨x, hx⟩ := List.exists_mem_of_ne_nil _ hne
  have hit : ∀ (i : Nat) {x : Wt}, x ∈ s.ws → ∃ z, z ∈ s.ws ∧ z.task = it (aft s) i x.task := by
    intro i
    induction i with
    | zero => exact fun hx => ⟨_, hx, rfl⟩
    | succ i ih =>
      intro x hx
      obtain ⟨y, hy, hye⟩ := hall x hx
      obtain ⟨z, hz, hze⟩ := ih hy
      exact ⟨z, hz, by rw [hze, hye, ← aft_wait h.1 hx]; rfl⟩
  obtain ⟨y, hy, hye⟩ := hit 65 hx
  have h1 := ord_step h 65 hx hy (fun i _ => hit i hx) hye
  obtain ⟨h2, _, h3, _⟩ := chk_parts h.1
  have := (badW_false (h3 y hy)).2
  omega

theorem mem_places {t x : Int} : ∀ {xs : List Int} {i : Nat}, x ∈ places t xs i → ∃ k, ∃ h : k < xs.length, xs[k] = t ∧ x = ((i + k : Nat) : Int)
  | [], _, h => by simp [places] at h
  | y :: ys, i, h => by
    have hrec : x ∈ places t ys (i + 1) → ∃ k, ∃ h : k < (y :: ys).length, (y :: ys)[k] = t ∧ x = ((i + k : Nat) : Int) := fun h => by
      obtain ⟨k, hk, e, hx⟩ := mem_places h
      exact ⟨k + 1, by simpa using hk, by simpa using e, by rw [hx]; congr 1; omega⟩
    unfold places at h
    split at h
    · rename_i hy
      rcases List.mem_cons.1 h with h | h
      · exact ⟨0, by simp, by simpa using hy, by simpa using h⟩
      · exact hrec h
    · exact hrec h
theorem places_nil {t : Int} : ∀ {xs : List Int} {i : Nat}, (∀ x, x ∈ xs → x ≠ t) → places t xs i = []
  | [], _, _ => rfl
  | y :: ys, i, h => by
    unfold places
    rw [if_neg (by simpa using h y (by simp)), places_nil fun x hx => h x (by simp [hx])]
theorem places_ne {t : Int} : ∀ {xs : List Int} {i : Nat}, t ∈ xs → places t xs i ≠ []
  | [], _, h => by simp at h
  | y :: ys, i, h => by
    unfold places
    split
    · simp
    · rename_i hy
      exact places_ne (by rcases List.mem_cons.1 h with h | h; · simp [h] at hy
                          · exact h)
theorem places_cut (t : Int) (xs : List Int) {l : Nat} (hl : l ≤ xs.length) : places t xs 0 = places t (xs.take l) 0 ++ places t (xs.drop l) l := by
  have h := places_append t (xs.take l) (xs.drop l) 0
  rw [List.take_append_drop] at h
  rw [h, List.length_take, Nat.min_eq_left hl, Nat.zero_add]

theorem last_mem {l : List Int} (h : l ≠ []) : l.getD (l.length - 1) 0 ∈ l := by
  have : 0 < l.length := List.length_pos_iff.2 h
  rw [List.getD_eq_getElem?_getD, List.getElem?_eq_getElem (by omega)]
  exact List.getElem_mem _
theorem last_app {a b : List Int} (h : b ≠ []) : (a ++ b).getD ((a ++ b).length - 1) 0 = b.getD (b.length - 1) 0 := by
  have : 0 < b.length := List.length_pos_iff.2 h
  simp only [List.getD_eq_getElem?_getD]
  rw [List.getElem?_append_right (by simp; omega)]
  congr 2
  simp
  omega

theorem askd_of {s : St} {t l : Int} (h : chk s = 0) (ht : tsk t = true) (h0 : 0 ≤ l) (h1 : l < s.hs.length) : askd s t l = 0 := by
  rw [askd, if_neg (by simp [h]), if_pos ⟨ht, h0, h1⟩]

theorem one_err {s : St} {t l : Int} (h : chk s = 0) (hh : (heldS s t).2 ≠ 0 ∨ (freeS s l).2 ≠ 0) : (takeS s t l).2 ≠ 0 := by
  have ha : askd s t l ≠ 0 := fun ha => by
    obtain ⟨_, h1, h2, h3⟩ := askd_ok ha
    rcases hh with hh | hh
    · exact hh (by rw [heldS, if_neg (by simp [h]), if_pos h1])
    · exact hh (by rw [freeS, if_neg (by rw [askd_of h rfl h2 h3]; simp)])
  have hm : mayE s t l ≠ 0 := by rw [mayE, if_pos ha]; exact ha
  rw [takeS, if_pos hm]
  exact hm

theorem one_in {s : St} {t l : Int} (h : chk s = 0) (h1 : (heldS s t).2 = 0) (h2 : (freeS s l).2 = 0) : tsk t = true ∧ 0 ≤ l ∧ l < s.hs.length ∧ (heldS s t).1 = places t s.hs 0 ∧ (freeS s l).1 = (s.hs.getD l.toNat 0 == 0) := by
  rw [heldS, if_neg (by simp [h])] at h1 ⊢
  have ht : tsk t = true := by
    cases ht : tsk t with
    | true => rfl
    | false => rw [ht] at h1; simp at h1
  by_cases ha : askd s 1 l ≠ 0
  · rw [freeS, if_pos ha] at h2
    exact absurd h2 ha
  · obtain ⟨_, _, g1, g2⟩ := askd_ok (Decidable.not_not.1 ha)
    exact ⟨ht, g1, g2, by rw [if_pos ht], by rw [freeS, if_neg ha]⟩

theorem one_iff {s : St} {t l : Int} (h : chk s = 0) (h1 : (heldS s t).2 = 0) (h2 : (freeS s l).2 = 0) :
    (takeS s t l).2 = 0 ↔ (freeS s l).1 = true ∧ ((heldS s t).1 = [] ∨ (heldS s t).1.getD ((heldS s t).1.length - 1) 0 < l) := by
  obtain ⟨ht, g0, g1, eh, ef⟩ := one_in h h1 h2
  have hb := tsk_bd ht
  rw [eh, ef]
  have ha := askd_of h ht g0 g1
  have hl : l.toNat < s.hs.length := by omega
  rw [places_cut t s.hs (l := l.toNat) (by omega)]
  by_cases hmem : t ∈ s.hs.drop l.toNat
  · have hne := places_ne (i := l.toNat) hmem
    constructor
    · intro hz
      exfalso
      have : mayE s t l ≠ 0 := by
        rw [mayE, if_neg (by simp [ha])]
        split
        · simp
        · rw [if_pos (List.any_eq_true.2 ⟨t, hmem, by simp⟩)]; simp
      rw [takeS, if_pos this] at hz
      exact this hz
    · rintro ⟨_, h3⟩
      exfalso
      rcases h3 with h3 | h3
      · exact hne (List.append_eq_nil_iff.1 h3).2
      · rw [last_app hne] at h3
        obtain ⟨k, _, _, e⟩ := mem_places (last_mem hne)
        omega
  · have hnil : places t (s.hs.drop l.toNat) l.toNat = [] := places_nil fun x hx e => hmem (e ▸ hx)
    rw [hnil, List.append_nil]
    have hlt : places t (s.hs.take l.toNat) 0 = [] ∨ (places t (s.hs.take l.toNat) 0).getD ((places t (s.hs.take l.toNat) 0).length - 1) 0 < l := by
      by_cases hp : places t (s.hs.take l.toNat) 0 = []
      · exact .inl hp
      · obtain ⟨k, hk, _, e⟩ := mem_places (last_mem hp)
        rw [e]
        simp at hk
        exact .inr (by omega)
    have hm : s.hs.getD l.toNat 0 ≠ t := fun e => hmem (by
      rw [List.getD_eq_getElem?_getD, List.getElem?_eq_getElem hl] at e
      rw [← (show s.hs[l.toNat] = t from e)]
      rw [List.drop_eq_getElem_cons hl]
      exact List.mem_cons_self)
    have hmay : mayE s t l = 0 := by
      rw [mayE, if_neg (by simp [ha]), if_neg hm, if_neg]
      intro hany
      obtain ⟨x, hx, e⟩ := List.any_eq_true.1 hany
      exact hmem (by have : t = x := by simpa using e
                     rw [this]; exact hx)
    rw [takeS, if_neg (by simp [hmay])]
    constructor
    · intro hz
      refine ⟨?_, hlt⟩
      split at hz
      · simp at hz
      · rename_i h5; simpa using h5
    · rintro ⟨h5, _⟩
      rw [if_neg (by simpa using h5)]

/-- What is so behind a Take that succeeded. -/
theorem one_took {s : St} {t l : Int} (h : Inv s) (hz : (takeS s t l).2 = 0) :
    (takeS s t l).1.hs = s.hs.set l.toNat t ∧ heldS (takeS s t l).1 t = ((heldS s t).1 ++ [l], 0) ∧ freeS (takeS s t l).1 l = (false, 0) ∧ (giveS (takeS s t l).1 t l).2 = 0 ∧ (giveS (takeS s t l).1 t l).1.hs = s.hs ∧ 0 ≤ l ∧ l < s.hs.length := by
  have hinv := inv_take (t := t) (l := l) h
  have hm : mayE s t l = 0 := by
    by_cases hm : mayE s t l = 0
    · exact hm
    · rw [takeS, if_pos hm] at hz; exact hz
  obtain ⟨_, ht, g0, g1⟩ := mayE_ok hm
  have hb := tsk_bd ht
  have hl : l.toNat < s.hs.length := by omega
  have hfree : s.hs.getD l.toNat 0 = 0 := by
    rw [takeS, if_neg (by simp [hm])] at hz
    split at hz
    · simp at hz
    · rename_i h5; exact Decidable.not_not.1 h5
  have hT : (takeS s t l).1 = ⟨s.hs.set l.toNat t, drop_ t s.ws⟩ := by rw [takeS, if_neg (by simp [hm]), if_neg (fun hh => hh hfree)]
  have hgt : (s.hs.set l.toNat t).getD l.toNat 0 = t := by rw [getD_set, if_pos ⟨rfl, hl⟩]
  have hno := mayE_no hm
  have hdrop : ∀ x, x ∈ s.hs.drop (l.toNat + 1) → x ≠ t := fun x hx e => by
    obtain ⟨k, hk, hke⟩ := List.getElem_of_mem hx
    simp only [List.getElem_drop] at hke
    simp at hk
    refine hno (l.toNat + 1 + k) (by omega) ?_
    rw [List.getD_eq_getElem?_getD, List.getElem?_eq_getElem (by omega)]
    exact hke.trans e
  have h0 : s.hs[l.toNat] = 0 := by
    rw [List.getD_eq_getElem?_getD, List.getElem?_eq_getElem hl] at hfree
    exact hfree
  have hchk : chk ⟨s.hs.set l.toNat t, drop_ t s.ws⟩ = 0 := by rw [← hT]; exact hinv.1
  refine ⟨by rw [hT], ?_, ?_, ?_, ?_, g0, g1⟩
  · have e1 : heldS s t = (places t s.hs 0, 0) := by rw [heldS, if_neg (by simp [h.1]), if_pos ht]
    rw [hT, heldS, if_neg (by simp [hchk]), if_pos ht, e1]
    simp only [Prod.mk.injEq, and_true]
    rw [places_cut t s.hs (l := l.toNat) (by omega), places_cut t (s.hs.set l.toNat t) (l := l.toNat) (by simp; omega)]
    have e2 : (s.hs.set l.toNat t).take l.toNat = s.hs.take l.toNat := by rw [List.take_set_of_le (Nat.le_refl _)]
    have e3 : (s.hs.set l.toNat t).drop l.toNat = t :: s.hs.drop (l.toNat + 1) := by
      rw [List.drop_eq_getElem_cons (by simpa using hl), List.getElem_set_self, List.drop_set_of_lt (by omega)]
    have e4 : places t (s.hs.drop l.toNat) l.toNat = [] := by
      rw [List.drop_eq_getElem_cons hl]
      refine places_nil fun x hx => ?_
      rcases List.mem_cons.1 hx with rfl | hx
      · rw [h0]; omega
      · exact hdrop x hx
    rw [e2, e3, e4, List.append_nil]
    congr 1
    unfold places
    rw [if_pos (by simp), places_nil hdrop]
    congr 1
    omega
  · rw [hT, freeS, if_neg (by rw [askd_of hchk rfl g0 (by simpa using g1)]; simp)]
    simp only [hgt]
    simp
    omega
  · rw [hT, giveS, if_neg (by rw [askd_of hchk ht g0 (by simpa using g1)]; simp), if_neg (fun hh => hh hgt)]
  · rw [hT, giveS, if_neg (by rw [askd_of hchk ht g0 (by simpa using g1)]; simp), if_neg (fun hh => hh hgt)]
    show (s.hs.set l.toNat t).set l.toNat 0 = s.hs
    rw [List.set_set, ← h0, List.set_getElem_self]

end Go.Proofs.Ytgmjfmajdnoogaa
