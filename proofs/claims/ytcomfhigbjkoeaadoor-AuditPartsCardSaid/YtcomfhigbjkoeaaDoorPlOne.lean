/-
  The plain law of AuditOne: in a record without faults a ticket is shown without an error exactly if it is the newest of its seat, neither refunded nor revoked. Conditions: as each theorem says.
-/
import Derived.Test.YtcomfhigbjkoeaaDoorAuZ
namespace Go.Proofs.YtcomfhigbjkoeaaDoor
open Go.RowKit

/-- The newest ticket that was returned for a seat, if it was neither refunded nor revoked since. -/
def scan1 (n : Int) (a : Tk × Bool) (p : MOp × MRp) : Tk × Bool :=
  if p.2.err ≠ 0 then a
  else if p.1.kind = 5 ∨ p.1.kind = 6 then (if p.2.tk.seat = n then (p.2.tk, true) else a)
  else if (p.1.kind = 7 ∧ p.1.tk.seat = n) ∨ (p.1.kind = 8 ∧ p.1.seat = n) then (a.1, false) else a
def scanT (n : Int) (l : List (MOp × MRp)) : Tk × Bool := l.foldl (scan1 n) (noTk, false)

/-- What the scan says of what is known. -/
def Fits (n : Int) (s : Au) (a : Tk × Bool) : Prop := match s.seats[n.toNat]? with
  | some x => x.sold = a.2 ∧ (a.2 = true → a.1 = ⟨n, x.owner, x.serial, x.epoch⟩)
  | none => a.2 = false

theorem fits_valid {T : Tk} (h0 : 0 ≤ T.seat) {s : Au} {a : Tk × Bool} (h : Fits T.seat s a) : validA s.seats T = (a.2 && decide (a.1 = T)) := by
  unfold Fits at h
  unfold validA
  cases hx : s.seats[T.seat.toNat]? with
  | none => rw [hx] at h; simp only at h; simp [h]
  | some x =>
    rw [hx] at h
    simp only at h ⊢
    obtain ⟨h1, h2⟩ := h
    rw [h1]
    cases ha : a.2 with
    | false => simp
    | true =>
      rw [h2 ha]
      obtain ⟨ts, ow, se, ep⟩ := T
      simp only [Bool.true_and, Tk.mk.injEq, true_and]
      rw [Bool.eq_iff_iff]
      simp
      constructor <;> (intro h; simp_all)
theorem scan_snoc (n : Int) (l : List (MOp × MRp)) (p : MOp × MRp) : scanT n (l ++ [p]) = scan1 n (scanT n l) p := by simp [scanT]

theorem fits_new {x : Ve} (n : Int) (h : (newA x).2 = 0) : Fits n (newA x).1 (noTk, false) := by
  unfold newA at h ⊢
  split at h
  · rename_i h1; exact absurd h h1
  rename_i h1
  rw [if_neg h1]
  unfold Fits
  dsimp only
  rw [List.getElem?_replicate]
  split
  · rename_i y hy
    split at hy
    · injection hy with hy
      subst hy
      exact ⟨rfl, fun h => by cases h⟩
    · cases hy
  · rfl

theorem fits_set {n : Int} {s : Au} {a b : Tk × Bool} {k : Nat} {f : Se → Se} (hn : 0 ≤ n) (h : Fits n s a) (hk : k < s.seats.length) (hne : n ≠ (k : Int) → b = a) (heq : n = (k : Int) → (f s.seats[k]).sold = b.2 ∧ (b.2 = true → b.1 = ⟨n, (f s.seats[k]).owner, (f s.seats[k]).serial, (f s.seats[k]).epoch⟩)) :
    Fits n (seatMod s k f) b := by
  have e : seatMod s k f = { s with seats := s.seats.set k (f s.seats[k]) } := by simp [seatMod, List.getElem?_eq_getElem hk]
  rw [e]
  unfold Fits
  dsimp only
  by_cases hx : n = (k : Int)
  · have := heq hx
    rw [hx, Int.toNat_natCast, List.getElem?_set_self hk]
    rw [hx] at this
    exact this
  · rw [hne hx, List.getElem?_set_ne (by omega)]
    exact h

theorem fits_same {n : Int} {s s' : Au} {a : Tk × Bool} (h : Fits n s a) (hl : s'.seats.length = s.seats.length) (hs : ∀ k, (h1 : k < s.seats.length) → (h2 : k < s'.seats.length) → s'.seats[k] = s.seats[k] ∨ (s.seats[k].sold = false ∧ s'.seats[k].sold = false)) : Fits n s' a := by
  unfold Fits at h ⊢
  rcases Nat.lt_or_ge n.toNat s.seats.length with h1 | h1
  · have h2 : n.toNat < s'.seats.length := by omega
    rw [List.getElem?_eq_getElem h1] at h
    rw [List.getElem?_eq_getElem h2]
    dsimp only at h ⊢
    rcases hs _ h1 h2 with e | ⟨e1, e2⟩
    · rw [e]; exact h
    · rw [e1] at h
      rw [e2]
      exact ⟨h.1, fun h3 => by rw [← h.1] at h3; cases h3⟩
  · rw [List.getElem?_eq_none h1] at h
    rw [List.getElem?_eq_none (by omega)]
    exact h

theorem modSeg_get {α : Type} (f : α → α) (l : List α) (a m k : Nat) (h : a + m ≤ l.length) (hk : k < l.length) (hk2 : k < (modSeg f l a m).length) : (modSeg f l a m)[k] = if a ≤ k ∧ k < a + m then f l[k] else l[k] := by
  have h1 : (modSeg f l a m)[k]? = some (if a ≤ k ∧ k < a + m then f l[k] else l[k]) := by
    unfold modSeg
    rcases Nat.lt_or_ge k a with c | c
    · rw [List.append_assoc, List.getElem?_append_left (by simp; omega), List.getElem?_take, if_pos c, if_neg (by omega), List.getElem?_eq_getElem hk]
    · rcases Nat.lt_or_ge k (a + m) with d | d
      · rw [List.getElem?_append_left (by simp; omega), List.getElem?_append_right (by simp; omega), if_pos ⟨c, d⟩]
        simp only [List.length_take, List.getElem?_map, List.getElem?_take, List.getElem?_drop]
        rw [if_pos (by omega), show a + (k - min a l.length) = k by omega, List.getElem?_eq_getElem hk]
        rfl
      · rw [List.getElem?_append_right (by simp; omega), if_neg (by omega)]
        simp only [List.length_append, List.length_take, List.length_map, List.length_drop, List.getElem?_drop]
        rw [show a + m + (k - (min a l.length + min m (l.length - a))) = k by omega, List.getElem?_eq_getElem hk]
  rw [List.getElem?_eq_getElem hk2] at h1
  exact Option.some.inj h1

theorem fits_learn {n : Int} (hn : 0 ≤ n) {s : Au} {op : MOp} {rp : MRp} {a : Tk × Bool} (ok : Aok s) (hk1 : 1 ≤ op.kind) (hk2 : op.kind ≤ 12) (h0 : ∀ k, k < 11 → ruleA s op rp k = false) (he : rp.err = 0) (h : Fits n s a) : Fits n (learnA s op rp) (scan1 n a (op, rp)) := by
  have hl : lostA s op rp = false := h0 2 (by omega)
  have hkind : op.kind = 1 ∨ op.kind = 2 ∨ op.kind = 3 ∨ op.kind = 4 ∨ op.kind = 5 ∨ op.kind = 6 ∨ op.kind = 7 ∨ op.kind = 8 ∨ op.kind = 9 ∨ op.kind = 10 ∨ op.kind = 11 ∨ op.kind = 12 := by omega
  have hsc : op.kind ≠ 5 → op.kind ≠ 6 → op.kind ≠ 7 → op.kind ≠ 8 → scan1 n a (op, rp) = a := fun h5 h6 h7 h8 => by simp [scan1, he, h5, h6, h7, h8]
  by_cases h8 : op.kind = 4 ∨ op.kind = 5 ∨ op.kind = 6 ∨ op.kind = 7 ∨ op.kind = 8
  · obtain ⟨k, h1, h2⟩ := lost_seat hl (by simp [isB]; omega) (by simp [isB]; omega)
    rcases h8 with hk | hk | hk | hk | hk
    · have e : learnA s op rp = seatMod s k freeS := by simp [learnA, isB, hk, h1]
      have h6 : holderA s.seats op = false := h0 6 (by omega)
      have hs : op.seat = (k : Int) := by rw [← h1, seatA, if_pos (by omega)]
      simp [holderA, isB, hk, hs, List.getElem?_eq_getElem h2] at h6
      rw [e, hsc (by omega) (by omega) (by omega) (by omega)]
      refine fits_set hn h h2 (fun _ => rfl) fun hx => ?_
      have : a.2 = false := by
        unfold Fits at h
        rw [hx, Int.toNat_natCast, List.getElem?_eq_getElem h2] at h
        rw [← h.1]; exact h6.1
      rw [this]
      exact ⟨rfl, fun h => by cases h⟩
    · have e : learnA s op rp = seatMod s k (soldS op.owner) := by simp [learnA, isB, hk, h1]
      have h9 : wrongA s.seats op rp = false := h0 9 (by omega)
      simp [wrongA, isB, hk, h1, List.getElem?_eq_getElem h2] at h9
      have hsc : scan1 n a (op, rp) = if rp.tk.seat = n then (rp.tk, true) else a := by simp [scan1, he, hk]
      rw [e, hsc, h9.2]
      dsimp only
      refine fits_set hn h h2 (fun hx => by rw [if_neg (fun h => hx h.symm)]) fun hx => ?_
      rw [if_pos hx.symm]
      exact ⟨rfl, fun _ => by rw [hx]; rfl⟩
    · have e : learnA s op rp = seatMod s k (soldS op.to) := by simp [learnA, isB, hk, h1]
      have h9 : wrongA s.seats op rp = false := h0 9 (by omega)
      simp [wrongA, isB, hk, h1, List.getElem?_eq_getElem h2] at h9
      have hsc : scan1 n a (op, rp) = if rp.tk.seat = n then (rp.tk, true) else a := by simp [scan1, he, hk]
      rw [e, hsc, h9.2]
      dsimp only
      refine fits_set hn h h2 (fun hx => by rw [if_neg (fun h => hx h.symm)]) fun hx => ?_
      rw [if_pos hx.symm]
      exact ⟨rfl, fun _ => by rw [hx]; rfl⟩
    · have e : learnA s op rp = seatMod s k freeS := by simp [learnA, isB, hk, h1]
      have hs : op.tk.seat = (k : Int) := by rw [← h1, seatA]; simp [hk]
      have hsc : scan1 n a (op, rp) = if (k : Int) = n then (a.1, false) else a := by simp [scan1, he, hk, hs]
      rw [e, hsc]
      refine fits_set hn h h2 (fun hx => by rw [if_neg (fun h => hx h.symm)]) fun hx => ?_
      rw [if_pos hx.symm]
      exact ⟨rfl, fun h => by cases h⟩
    · have e : learnA s op rp = seatMod s k revS := by simp [learnA, isB, hk, h1]
      have hs : op.seat = (k : Int) := by rw [← h1, seatA]; simp [hk]
      have hsc : scan1 n a (op, rp) = if (k : Int) = n then (a.1, false) else a := by simp [scan1, he, hk, hs]
      rw [e, hsc]
      refine fits_set hn h h2 (fun hx => by rw [if_neg (fun h => hx h.symm)]) fun hx => ?_
      rw [if_pos hx.symm]
      exact ⟨rfl, fun h => by cases h⟩
  · rw [hsc (by omega) (by omega) (by omega) (by omega)]
    by_cases h12 : op.kind = 12
    · have e : learnA s op rp = { s with now := op.now, seats := s.seats.map (tickS op.now) } := by simp [learnA, isB, h12]
      rw [e]
      refine fits_same h (by simp) fun k h1 h2 => ?_
      simp only [List.getElem_map]
      unfold tickS
      split
      · rename_i hh
        have hb := ok.hbad _ (List.getElem_mem h1)
        simp at hh
        simp [badA, hh.1] at hb
        exact .inr ⟨hb.1, rfl⟩
      · exact .inl rfl
    · by_cases h23 : op.kind = 2 ∨ op.kind = 3
      · have hq : isB [2, 3] op.kind = true := by simp [isB]; omega
        have h5 : takenA s.seats op rp = false := h0 5 (by omega)
        have hch : chosenL s.seats op rp = (s.seats.drop (firstA op rp)).take (manyA op rp) := by
          unfold chosenL firstA manyA
          split <;> rfl
        have hlen : firstA op rp + manyA op rp ≤ s.seats.length := by
          unfold firstA manyA
          rcases h23 with hk | hk
          · obtain ⟨k, h1, h2⟩ := lost_seat hl (by rw [hk]; rfl) (by rw [hk]; rfl)
            have hs : op.seat = (k : Int) := by rw [← h1, seatA, hk]; rfl
            simp [isB, hk, hs]; omega
          · obtain ⟨k, m, h1, h2, h3, h4⟩ := lost_block ok hl (by rw [hk]; rfl)
            simp [isB, hk, h1, h2]; omega
        have e : learnA s op rp = { s with seats := modSeg (holdS op.owner rp.deadline) s.seats (firstA op rp) (manyA op rp) } := by simp [learnA, hq]
        rw [e]
        refine fits_same h (modSeg_len _ _ _ _ hlen) fun k h1 h2 => ?_
        simp only [modSeg_get _ _ _ _ _ hlen h1]
        split
        · rename_i hh
          have hm : s.seats[k] ∈ (s.seats.drop (firstA op rp)).take (manyA op rp) := by
            rw [List.mem_iff_getElem?]
            exact ⟨k - firstA op rp, by rw [List.getElem?_take, if_pos (by omega), List.getElem?_drop, show firstA op rp + (k - firstA op rp) = k by omega, List.getElem?_eq_getElem h1]⟩
          simp only [takenA, hq, Bool.true_and, hch, List.any_eq_false] at h5
          have := h5 _ hm
          simp at this
          exact .inr ⟨this.1, this.1⟩
        · exact .inl rfl
      · have e : (learnA s op rp).seats = s.seats := by
          have : op.kind = 1 ∨ op.kind = 9 ∨ op.kind = 10 ∨ op.kind = 11 := by omega
          rcases this with hk | hk | hk | hk <;> simp [learnA, isB, hk]
        exact fits_same h (by rw [e]) fun k h1 h2 => .inl (by simp only [e])

/-- What is known after some steps. -/
def runA (s : Au) (l : List (MOp × MRp)) : Au := l.foldl (fun s p => (readA s p.1 p.2).2.2) s
theorem checkLoop_acc : ∀ (l : List (MOp × MRp)) (s : Au) (i : Nat) (acc : List (Int × Int)), (checkLoop s i l acc).2 = 0 → acc.length ≤ (checkLoop s i l acc).1.length
  | [], _, _, _, _ => Nat.le_refl _
  | p :: l, s, i, acc, h => by
    simp only [checkLoop] at h ⊢
    split at h
    · rename_i h1; exact absurd h h1
    · rename_i h1
      rw [if_neg h1]
      have := checkLoop_acc l _ _ _ h
      split at this
      · simp at this; split <;> simp_all <;> omega
      · split <;> simp_all

theorem broken_zero {s : Au} {op : MOp} {rp : MRp} (h : brokenA s op rp = 0) : (rp.err ≠ 0 → (isB [9] op.kind && validA s.seats op.tk) = false) ∧ (rp.err = 0 → ∀ k, k < 11 → ruleA s op rp k = false) := by
  unfold brokenA at h
  split at h
  · omega
  · constructor
    · intro he
      rw [if_pos he] at h
      split at h
      · omega
      · rename_i hq; simpa using hq
    · intro he
      rw [if_neg (by simpa using he)] at h
      split at h
      · omega
      · rename_i hq
        intro k hk
        have := List.find?_eq_none.1 hq k (List.mem_range.2 hk)
        simpa using this

/-- Whether a ticket is the newest, and valid. -/
def showsA (a : Tk × Bool) (T : Tk) : Bool := a.2 && decide (a.1 = T)

theorem one_holds {n : Int} (hn : 0 ≤ n) : ∀ (l : List (MOp × MRp)) (s : Au) (i : Nat) (a : Tk × Bool), Aok s → Fits n s a → checkLoop s i l [] = ([], 0) →
    ∀ k, (hk : k < l.length) → l[k].1.kind = 9 → l[k].1.tk.seat = n → decide (l[k].2.err = 0) = showsA ((l.take k).foldl (scan1 n) a) l[k].1.tk
  | [], _, _, _, _, _, _, k, hk, _, _ => absurd hk (by simp)
  | p :: l, s, i, a, ok, hf, h, k, hk, h9, hs => by
    simp only [checkLoop] at h
    have hkind : 1 ≤ p.1.kind ∧ p.1.kind ≤ 12 := by
      by_cases hc : p.1.kind < 1 ∨ 12 < p.1.kind
      · have e : readA s p.1 p.2 = (0, 2, s) := by rw [readA, if_pos (by simpa using hc)]
        rw [e] at h
        simp at h
      · omega
    have e : readA s p.1 p.2 = (brokenA s p.1 p.2, 0, if brokenA s p.1 p.2 = 0 ∧ p.2.err = 0 then learnA s p.1 p.2 else s) := by rw [readA, if_neg (by simp; omega)]
    have hb : brokenA s p.1 p.2 = 0 := by
      rcases Decidable.em (brokenA s p.1 p.2 = 0) with hb | hb
      · exact hb
      · rw [e] at h
        simp [hb] at h
        have := checkLoop_acc l s (i + 1) [((i : Int), brokenA s p.1 p.2)] (by rw [h])
        rw [h] at this
        simp at this
    have hr : (readA s p.1 p.2).2.2 = if p.2.err = 0 then learnA s p.1 p.2 else s := by rw [e]; simp [hb]
    have h' : checkLoop (readA s p.1 p.2).2.2 (i + 1) l [] = ([], 0) := by
      rw [e] at h ⊢
      simp only [hb] at h ⊢
      simpa using h
    obtain ⟨hb1, hb2⟩ := broken_zero hb
    cases k with
    | zero =>
      simp only [List.getElem_cons_zero, List.take_zero, List.foldl_nil] at h9 hs ⊢
      subst hs
      rw [show showsA a p.1.tk = validA s.seats p.1.tk from (fits_valid hn hf).symm]
      by_cases he : p.2.err = 0
      · have h7 : validB s.seats p.1 = false := hb2 he 7 (by omega)
        simp [validB, isB, h9] at h7
        rw [h7]; simpa using he
      · have h7 := hb1 he
        simp [isB, h9] at h7
        rw [h7]; simpa using he
    | succ k =>
      simp only [List.getElem_cons_succ, List.take_succ_cons, List.foldl_cons] at h9 hs ⊢
      refine one_holds hn l (readA s p.1 p.2).2.2 (i + 1) (scan1 n a p) (read_ok ok) ?_ h' k (by simpa using hk) h9 hs
      rw [hr]
      split
      · rename_i he
        exact fits_learn hn ok hkind.1 hkind.2 (hb2 he) he hf
      · rename_i he
        rw [show scan1 n a p = a by simp [scan1, he]]
        exact hf

theorem one_all {x : Ve} {l : List (MOp × MRp)} (h : checkA x l = ([], 0)) (ht : ∀ p ∈ l, 0 ≤ p.1.tk.seat) (k : Nat) (hk : k < l.length) (h9 : l[k].1.kind = 9) : decide (l[k].2.err = 0) = showsA (scanT l[k].1.tk.seat (l.take k)) l[k].1.tk := by
  unfold checkA at h
  split at h
  · rename_i h1; simp at h; exact absurd h h1
  rename_i h1
  split at h
  · simp at h
  · exact one_holds (ht _ (List.getElem_mem hk)) l _ 0 (noTk, false) (new_ok (by simpa using h1)) (fits_new _ (by simpa using h1)) h k hk h9 rfl
end Go.Proofs.YtcomfhigbjkoeaaDoor
