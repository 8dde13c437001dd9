/-
  Walks of groundlingref32.seat, spoken, session, owner, chosen, valid, deadline, reply. Conditions: as each theorem says.
  Walks of groundlingref15.Place and groundlingref32.Good. Conditions: as each theorem says.
  Walk of groundlingref32.place. Conditions: as the theorem says.
  Walks of audit.New and groundlingref32.New: what they answer, refusals too. Conditions: as each theorem says.
-/
import Derived.Test.YtcomfhigbjkoeaaGreatDoorRvM
import Derived.Test.YtcomfhigbjkoeaaGreatDoorAuZ
import Derived.BigRegion
import Derived.Deep.CutRange
namespace Go.Proofs.YtcomfhigbjkoeaaGreatDoor
open Go.RowKit

def tkV (t : Tk) : Value := .agg #[.int .u32 t.seat, .int .u32 t.owner, .int .u64 t.serial, .int .u64 t.epoch]
def opV (o : MOp) : Value := .agg #[.int .i64 o.kind, .int .u32 o.owner, .int .i64 o.till, .int .i64 o.seat, .int .i64 o.section_, .int .i64 o.n, .int .u32 o.to, .int .u32 o.tk.seat, .int .u32 o.tk.owner, .int .u64 o.tk.serial, .int .u64 o.tk.epoch, .int .i64 o.now]

set_option maxHeartbeats 1000000 in
theorem rseat_any (x : Se) (w : World) : Calls Tryz.prog 30 #[.agg #[.bool x.sold, .bool x.held, .int .u32 x.owner, .int .i64 x.till, .int .u64 x.serial, .int .u64 x.epoch]] w fun e w' => e = .returned (.bool (!badA x)) ∧ Below w.heap.size w w' := by
  have hT := Lib.hid (show badA x = if x.sold && x.held then true else if x.till < 0 then true else if x.held then false else if x.sold then x.till != 0 else (x.till != 0 || x.owner != 0) from rfl)
  generalize badA x = M at hT ⊢
  obtain ⟨so, he, ow, ti, se, ep⟩ := x
  simp only at hT ⊢
  by_cases h0 : ti < 0
  · have t0 : decide (ti < 0) = true := decide_eq_true h0
    cases so <;> cases he <;>
    · go_enter Tryz.func30, Tryz.ntmps30
      go_wp2_with fail
      go_ret
      exact ⟨ret_bool (by rw [hT.out]; simp [h0]), ba _ _⟩
  · have t0 : decide (ti < 0) = false := decide_eq_false h0
    by_cases h1 : ti = 0
    · subst h1
      clear t0
      cases so <;> cases he <;>
      · go_enter Tryz.func30, Tryz.ntmps30
        go_wp2_with fail
        go_ret
        exact ⟨ret_bool (by rw [hT.out]; simp [bne]), ba _ _⟩
    · have h2 : (ti != 0) = true := by simpa using h1
      clear h1
      cases so <;> cases he <;>
      · go_enter Tryz.func30, Tryz.ntmps30
        go_wp2_with fail
        go_ret
        exact ⟨ret_bool (by rw [hT.out]; simp [h0, h2]), ba _ _⟩

set_option maxHeartbeats 1000000 in
theorem rspoken_any (op : MOp) (W : World) (hb : U32 op.tk.seat) : Calls Tryz.prog 41 #[opV op] W fun e w' => e = .returned (.int .i64 (seatA op)) ∧ Below W.heap.size W w' := by
  unfold opV
  have hT := Lib.hid (show seatA op = if op.kind = 2 ∨ op.kind = 4 ∨ op.kind = 5 ∨ op.kind = 8 then op.seat else if op.kind = 6 ∨ op.kind = 7 ∨ op.kind = 9 then op.tk.seat else -1 from rfl)
  generalize seatA op = S at hT ⊢
  obtain ⟨k, ow, ti, s, sc, nn, ot, ⟨t, tow, tse, te⟩, now⟩ := op
  dsimp only at hT hb ⊢
  unfold U32 at hb
  have h8 : k = 2 ∨ k = 4 ∨ k = 5 ∨ k = 8 ∨ k = 6 ∨ k = 7 ∨ k = 9 ∨ (k ≠ 2 ∧ k ≠ 4 ∧ k ≠ 5 ∧ k ≠ 8 ∧ k ≠ 6 ∧ k ≠ 7 ∧ k ≠ 9) := by omega
  rcases h8 with rfl | rfl | rfl | rfl | rfl | rfl | rfl | ⟨h1, h2, h3, h4, h5, h6, h7⟩
  case inr.inr.inr.inr.inr.inr.inr =>
    have t1 : (k == 2) = false := by simpa using h1
    have t2 : (k == 4) = false := by simpa using h2
    have t3 : (k == 5) = false := by simpa using h3
    have t4 : (k == 8) = false := by simpa using h4
    have t5 : (k == 6) = false := by simpa using h5
    have t6 : (k == 7) = false := by simpa using h6
    have t7 : (k == 9) = false := by simpa using h7
    obtain rfl : S = -1 := by rw [hT.out, if_neg (by omega), if_neg (by omega)]
    clear h1 h2 h3 h4 h5 h6 h7
    go_enter Tryz.func41, Tryz.ntmps41
    go_wp2_with fail
    go_ret
    exact ⟨rfl, ba _ _⟩
  all_goals
    go_enter Tryz.func41, Tryz.ntmps41
    go_wp2_with fail
    go_ret
    exact ⟨ret_int (by rw [hT.out]; simp), ba _ _⟩

set_option maxHeartbeats 1000000 in
theorem rsession_any (k : Int) (W : World) : Calls Tryz.prog 35 #[.int .i64 k] W fun e w' => e = .returned (.bool (!isB [1, 9, 12] k)) ∧ Below W.heap.size W w' := by
  have h4 : k = 1 ∨ k = 9 ∨ k = 12 ∨ (k ≠ 1 ∧ k ≠ 9 ∧ k ≠ 12) := by omega
  rcases h4 with rfl | rfl | rfl | ⟨h1, h2, h3⟩
  case inr.inr.inr =>
    have t1 : (k != 1) = true := by simpa using h1
    have t2 : (k != 9) = true := by simpa using h2
    have t3 : (k != 12) = true := by simpa using h3
    go_enter Tryz.func35, Tryz.ntmps35
    go_wp2_with fail
    go_ret
    exact ⟨ret_bool (by simp [isB, h1, h2, h3]), Below.refl _ _⟩
  all_goals
    go_enter Tryz.func35, Tryz.ntmps35
    go_wp2_with fail
    go_ret
    exact ⟨ret_bool (by simp [isB]), Below.refl _ _⟩

set_option maxHeartbeats 1000000 in
theorem rowner_any (op : MOp) (W : World) : Calls Tryz.prog 36 #[opV op] W fun e w' => e = .returned (.bool (ownerA op)) ∧ Below W.heap.size W w' := by
  unfold opV
  have hT := Lib.hid (show ownerA op = ((isB [8] op.kind && op.owner != 0) || (isB [6, 7] op.kind && op.tk.owner != op.owner)) from rfl)
  generalize ownerA op = R at hT ⊢
  obtain ⟨k, ow, ti, s, sc, nn, ot, ⟨t, tow, tse, te⟩, now⟩ := op
  dsimp only at hT ⊢
  have h4 : k = 8 ∨ k = 6 ∨ k = 7 ∨ (k ≠ 8 ∧ k ≠ 6 ∧ k ≠ 7) := by omega
  rcases h4 with rfl | rfl | rfl | ⟨h1, h2, h3⟩
  case inl =>
    cases h : (ow != 0) with
    | true =>
      go_enter Tryz.func36, Tryz.ntmps36
      go_wp2_with fail
      go_ret
      exact ⟨ret_bool (by rw [hT.out, h]; rfl), ba _ _⟩
    | false =>
      go_enter Tryz.func36, Tryz.ntmps36
      go_wp2_with fail
      go_ret
      exact ⟨ret_bool (by rw [hT.out, h]; rfl), ba _ _⟩
  case inr.inr.inr =>
    have t1 : (k == 8) = false := by simpa using h1
    have t2 : (k == 6) = false := by simpa using h2
    have t3 : (k == 7) = false := by simpa using h3
    go_enter Tryz.func36, Tryz.ntmps36
    go_wp2_with fail
    go_ret
    exact ⟨ret_bool (by rw [hT.out]; simp [isB, h1, h2, h3]), ba _ _⟩
  all_goals
    go_enter Tryz.func36, Tryz.ntmps36
    go_wp2_with fail
    go_ret
    exact ⟨ret_bool (by rw [hT.out]; simp [isB]), ba _ _⟩

set_option maxHeartbeats 1000000 in
theorem rchosen_any (op : MOp) (rp : MRp) (W : World) : Calls Tryz.prog 40 #[stV op rp] W fun e w' => e = .returned (.tuple #[.int .i64 (if op.kind = 3 then rp.seat else op.seat), .int .i64 (if op.kind = 3 then rp.n else 1)]) ∧ Below W.heap.size W w' := by
  unfold stV
  by_cases hk : op.kind = 3
  · rw [if_pos hk, if_pos hk, hk]
    clear hk
    go_enter Tryz.func40, Tryz.ntmps40
    go_wp2_with fail
    go_quiet (fail)
    go_wp2_with fail
    go_ret2
    exact ⟨rfl, bdN (ba _ _) _⟩
  · have t1 : (op.kind == 3) = false := by simpa using hk
    rw [if_neg hk, if_neg hk]
    clear hk
    go_enter Tryz.func40, Tryz.ntmps40
    go_wp2_with fail
    go_ret2
    exact ⟨rfl, ba _ _⟩

set_option maxRecDepth 20000 in
set_option maxHeartbeats 4000000 in
theorem rvalid_any {W : World} {F : Frm} {s : Au} (R : IsAu W F s) (t : Tk) (hb : U32 t.seat) : Calls Tryz.prog 34 #[auV F s, tkV t] W fun e w' => e = .returned (.bool (validA s.seats t)) ∧ Below W.heap.size W w' := by
  obtain ⟨ts, ow, se, ep⟩ := t
  have hs := R.ss
  clear R
  unfold auV tkV
  dsimp only at hb ⊢
  unfold U32 at hb
  obtain ⟨k, hk⟩ := Int.eq_ofNat_of_zero_le hb.1
  subst hk
  by_cases hlt : k < s.seats.length
  · obtain ⟨b, off, hA, hbl, e0, e1, e2, e3, e4, e5, _⟩ := hs.atE hlt
    rw [hA]
    have hT := Lib.hid (show validA s.seats ⟨k, ow, se, ep⟩ = (s.seats[k].sold && (ow == s.seats[k].owner && se == s.seats[k].serial && ep == s.seats[k].epoch)) by simp [validA, List.getElem?_eq_getElem hlt])
    generalize validA s.seats ⟨k, ow, se, ep⟩ = V at hT ⊢
    generalize s.seats[k] = x at e0 e1 e2 e3 e4 e5 hT
    have hk0 : (0 : Int) ≤ (k : Int) := by omega
    have hk1 : (k : Int) < (s.seats.length : Int) := by omega
    have hk2 : decide ((s.seats.length : Int) ≤ (k : Int)) = false := decide_eq_false (by omega)
    have hk3 : decide (s.seats.length ≤ k) = false := decide_eq_false (by omega)
    obtain ⟨so, he, xo, xt, xs, xe⟩ := x
    dsimp only at e0 e1 e2 e3 e4 e5 hT
    clear hs hA
    cases so with
    | false =>
      go_enter Tryz.func34, Tryz.ntmps34
      go_wp2_with fail
      go_ret
      exact ⟨ret_bool (by rw [hT.out]; rfl), bal (bal (ba _ _))⟩
    | true =>
      cases h1 : (ow == xo) with
      | false =>
        go_enter Tryz.func34, Tryz.ntmps34
        go_wp2_with fail
        go_ret
        exact ⟨ret_bool (by rw [hT.out, h1]; rfl), bal (bal (ba _ _))⟩
      | true =>
        cases h2 : (se == xs) with
        | false =>
          go_enter Tryz.func34, Tryz.ntmps34
          go_wp2_with fail
          go_ret
          exact ⟨ret_bool (by rw [hT.out, h1, h2]; rfl), bal (bal (ba _ _))⟩
        | true =>
          go_enter Tryz.func34, Tryz.ntmps34
          go_wp2_with fail
          go_ret
          exact ⟨ret_bool (by rw [hT.out, h1, h2]; simp), bal (bal (ba _ _))⟩
  · have hk2 : decide ((s.seats.length : Int) ≤ (k : Int)) = true := decide_eq_true (by omega)
    have hk3 : decide (s.seats.length ≤ k) = true := decide_eq_true (by omega)
    have hT := Lib.hid (show validA s.seats ⟨k, ow, se, ep⟩ = false by simp [validA, List.getElem?_eq_none (Nat.le_of_not_lt hlt)])
    clear hlt hs
    go_enter Tryz.func34, Tryz.ntmps34
    go_wp2_with fail
    go_ret
    exact ⟨ret_bool (by rw [hT.out]), bal (ba _ _)⟩

set_option maxRecDepth 20000 in
set_option maxHeartbeats 4000000 in
theorem rdeadline_any {W : World} {F : Frm} {s : Au} (R : IsAu W F s) (op : MOp) (rp : MRp) : Calls Tryz.prog 38 #[auV F s, stV op rp] W fun e w' => e = .returned (.bool (lateA s.ve s.now op.kind rp.deadline)) ∧ Below W.heap.size W w' := by
  have C1 := Lib.hid (fun w => rAdd_any s.now s.ve.session w R.bn R.bv.2.2)
  have C2 := Lib.hid (fun w => rAdd_any s.now s.ve.ttl w R.bn R.bv.2.1)
  clear R
  unfold auV stV
  have hT := Lib.hid (show lateA s.ve s.now op.kind rp.deadline = (isB [1, 2, 3] op.kind && (rp.deadline != if isB [1] op.kind then (addT s.now s.ve.session).1 else (addT s.now s.ve.ttl).1)) from rfl)
  generalize lateA s.ve s.now op.kind rp.deadline = L at hT ⊢
  generalize addT s.now s.ve.session = D1 at C1 hT
  generalize addT s.now s.ve.ttl = D2 at C2 hT
  obtain ⟨D1, E1⟩ := D1
  obtain ⟨D2, E2⟩ := D2
  obtain ⟨cs, hcs⟩ : ∃ cs : List Value, cs = [.int .i64 op.kind, .int .u32 op.owner, .int .i64 op.till, .int .i64 op.seat, .int .i64 op.section_, .int .i64 op.n, .int .u32 op.to, .int .u32 op.tk.seat, .int .u32 op.tk.owner, .int .u64 op.tk.serial, .int .u64 op.tk.epoch, .int .i64 op.now,
    .int .i64 rp.err, .int .i64 rp.seat, .int .i64 rp.n, .int .i64 rp.deadline, .int .u32 rp.tk.seat, .int .u32 rp.tk.owner, .int .u64 rp.tk.serial, .int .u64 rp.tk.epoch, .int .i64 rp.place] := ⟨_, rfl⟩
  have h15 := Lib.hid (show cs[15]? = some (.int .i64 rp.deadline) by rw [hcs]; rfl)
  generalize op.kind = k at hT hcs ⊢
  have hal : ∀ o : Obj, (W.alloc o).heap.size = W.heap.size + 1 := fun o => by simp
  have K0 := Lib.hid (fun o => show Cells ((W.alloc o).alloc (.cells #[.int .i64 k, .int .u32 op.owner, .int .i64 op.till, .int .i64 op.seat, .int .i64 op.section_, .int .i64 op.n, .int .u32 op.to, .int .u32 op.tk.seat, .int .u32 op.tk.owner, .int .u64 op.tk.serial, .int .u64 op.tk.epoch, .int .i64 op.now,
    .int .i64 rp.err, .int .i64 rp.seat, .int .i64 rp.n, .int .i64 rp.deadline, .int .u32 rp.tk.seat, .int .u32 rp.tk.owner, .int .u64 rp.tk.serial, .int .u64 rp.tk.epoch, .int .i64 rp.place] 47)) (W.heap.size + 1) cs by rw [hcs, ← hal o]; exact Cells.new _ _ _)
  clear hal hcs
  have h4 : k = 1 ∨ k = 2 ∨ k = 3 ∨ (k ≠ 1 ∧ k ≠ 2 ∧ k ≠ 3) := by omega
  rcases h4 with rfl | rfl | rfl | ⟨h1, h2, h3⟩
  case inr.inr.inr =>
    have t1 : (k == 1) = false := by simpa using h1
    have t2 : (k == 2) = false := by simpa using h2
    have t3 : (k == 3) = false := by simpa using h3
    go_enter Tryz.func38, Tryz.ntmps38
    go_wp2_with fail
    go_ret
    exact ⟨ret_bool (by rw [hT.out]; simp [isB, h1, h2, h3]), bal (ba _ _)⟩
  case inl =>
    go_enter Tryz.func38, Tryz.ntmps38
    go_wp2_with fail
    refine (C1.out _).mono ?_
    rintro e w1 ⟨rfl, hb⟩
    have k1 := (K0.out _).later hb
    have c15 := k1.c 15 _ h15.out
    have y0 := k1.lt
    have HB := Lib.hid ((bal (ba W _)).trans (hb.mono (bal (ba W _)).size))
    clear k1 hb
    go_wp2_with fail
    go_ret
    exact ⟨ret_bool (by rw [hT.out]; simp [isB]), HB.out⟩
  all_goals
    go_enter Tryz.func38, Tryz.ntmps38
    go_wp2_with fail
    refine (C2.out _).mono ?_
    rintro e w1 ⟨rfl, hb⟩
    have k1 := (K0.out _).later hb
    have c15 := k1.c 15 _ h15.out
    have y0 := k1.lt
    have HB := Lib.hid ((bal (ba W _)).trans (hb.mono (bal (ba W _)).size))
    clear k1 hb
    go_wp2_with fail
    go_ret
    exact ⟨ret_bool (by rw [hT.out]; simp [isB]), HB.out⟩

set_option maxRecDepth 20000 in
set_option maxHeartbeats 4000000 in
theorem rreply_any (op : MOp) (rp : MRp) (W : World) : Calls Tryz.prog 33 #[stV op rp] W fun e w' => e = .returned (.bool (moreA op.kind rp)) ∧ Below W.heap.size W w' := by
  unfold stV
  generalize hk : op.kind = kind
  clear hk
  have hT := Lib.hid (show moreA kind rp = !(leftA kind rp == noRp) from rfl)
  generalize moreA kind rp = M at hT ⊢
  obtain ⟨e, s, n, d, ⟨ts, tw, te, tp⟩, p⟩ := rp
  dsimp only at hT ⊢
  have hL := Lib.hid (show leftA kind ⟨e, s, n, d, ⟨ts, tw, te, tp⟩, p⟩ = if e ≠ 0 then ⟨0, s, n, d, ⟨ts, tw, te, tp⟩, p⟩ else if isB [3] kind then ⟨e, 0, 0, 0, ⟨ts, tw, te, tp⟩, p⟩ else if isB [1, 2] kind then ⟨e, s, n, 0, ⟨ts, tw, te, tp⟩, p⟩ else if isB [5, 6] kind then ⟨e, s, n, d, noTk, p⟩ else if isB [10] kind then ⟨e, s, n, d, ⟨ts, tw, te, tp⟩, 0⟩ else ⟨e, s, n, d, ⟨ts, tw, te, tp⟩, p⟩ from rfl)
  generalize leftA kind ⟨e, s, n, d, ⟨ts, tw, te, tp⟩, p⟩ = X at hL hT
  by_cases he : e = 0
  case neg =>
    have t0 : (e != 0) = true := by simpa using he
    obtain rfl : X = ⟨0, s, n, d, ⟨ts, tw, te, tp⟩, p⟩ := by rw [hL.out, if_pos he]
    clear he hL
    go_enter Tryz.func33, Tryz.ntmps33
    go_wp2_with fail
    all_goals (go_ret; exact ⟨ret_bool (by rw [hT.out]; simp_all [noRp, noTk]), bal (ba _ _)⟩)
  subst he
  have h7 : kind = 1 ∨ kind = 2 ∨ kind = 3 ∨ kind = 5 ∨ kind = 6 ∨ kind = 10 ∨ (kind ≠ 1 ∧ kind ≠ 2 ∧ kind ≠ 3 ∧ kind ≠ 5 ∧ kind ≠ 6 ∧ kind ≠ 10) := by omega
  rcases h7 with rfl | rfl | rfl | rfl | rfl | rfl | ⟨h1, h2, h3, h4, h5, h6⟩
  case inr.inr.inr.inr.inr.inr =>
    have t1 : (kind == 1) = false := by simpa using h1
    have t2 : (kind == 2) = false := by simpa using h2
    have t3 : (kind == 3) = false := by simpa using h3
    have t4 : (kind == 5) = false := by simpa using h4
    have t5 : (kind == 6) = false := by simpa using h5
    have t6 : (kind == 10) = false := by simpa using h6
    obtain rfl : X = ⟨0, s, n, d, ⟨ts, tw, te, tp⟩, p⟩ := by rw [hL.out]; simp [isB, h1, h2, h3, h4, h5, h6]
    clear hL h1 h2 h3 h4 h5 h6
    go_enter Tryz.func33, Tryz.ntmps33
    go_wp2_with fail
    all_goals (go_ret; exact ⟨ret_bool (by rw [hT.out]; simp_all [noRp, noTk]), bal (ba _ _)⟩)
  · obtain rfl : X = ⟨0, s, n, 0, ⟨ts, tw, te, tp⟩, p⟩ := by rw [hL.out]; simp [isB]
    clear hL
    go_enter Tryz.func33, Tryz.ntmps33
    go_wp2_with fail
    all_goals (go_ret; exact ⟨ret_bool (by rw [hT.out]; simp_all [noRp, noTk]), bal (ba _ _)⟩)
  · obtain rfl : X = ⟨0, s, n, 0, ⟨ts, tw, te, tp⟩, p⟩ := by rw [hL.out]; simp [isB]
    clear hL
    go_enter Tryz.func33, Tryz.ntmps33
    go_wp2_with fail
    all_goals (go_ret; exact ⟨ret_bool (by rw [hT.out]; simp_all [noRp, noTk]), bal (ba _ _)⟩)
  · obtain rfl : X = ⟨0, 0, 0, 0, ⟨ts, tw, te, tp⟩, p⟩ := by rw [hL.out]; simp [isB]
    clear hL
    go_enter Tryz.func33, Tryz.ntmps33
    go_wp2_with fail
    all_goals (go_ret; exact ⟨ret_bool (by rw [hT.out]; simp_all [noRp, noTk]), bal (ba _ _)⟩)
  · obtain rfl : X = ⟨0, s, n, d, noTk, p⟩ := by rw [hL.out]; simp [isB]
    clear hL
    go_enter Tryz.func33, Tryz.ntmps33
    go_wp2_with fail
    all_goals (go_ret; exact ⟨ret_bool (by rw [hT.out]; simp_all [noRp, noTk]), bal (ba _ _)⟩)
  · obtain rfl : X = ⟨0, s, n, d, noTk, p⟩ := by rw [hL.out]; simp [isB]
    clear hL
    go_enter Tryz.func33, Tryz.ntmps33
    go_wp2_with fail
    all_goals (go_ret; exact ⟨ret_bool (by rw [hT.out]; simp_all [noRp, noTk]), bal (ba _ _)⟩)
  · obtain rfl : X = ⟨0, s, n, d, ⟨ts, tw, te, tp⟩, 0⟩ := by rw [hL.out]; simp [isB]
    clear hL
    go_enter Tryz.func33, Tryz.ntmps33
    go_wp2_with fail
    all_goals (go_ret; exact ⟨ret_bool (by rw [hT.out]; simp_all [noRp, noTk]), bal (ba _ _)⟩)
end Go.Proofs.YtcomfhigbjkoeaaGreatDoor

namespace Go.Proofs.YtcomfhigbjkoeaaGreatDoor
open Go.RowKit

theorem Cells.newS (w : World) (cs : List Value) (t : TypeId) (g : Nat) (hg : g = w.heap.size) : Cells (w.alloc (.cells cs.toArray t)) g cs := hg ▸ Cells.new w cs t

theorem seatsV_bad {x : Ve} (h : (seatsV x).2 ≠ 0) : (checkV x).2 ≠ 0 ∧ seatsV x = (0, (checkV x).2) := by
  unfold seatsV at h ⊢
  split at h
  · rename_i h1; rw [if_pos h1]; exact ⟨h1, rfl⟩
  · exact absurd rfl h
theorem seatsV_good {x : Ve} (h : (seatsV x).2 = 0) : (checkV x).2 = 0 ∧ seatsV x = (((plAll x.secs 0).length : Int), 0) := by
  have h1 := (seatsV_ok h).1
  have h2 := (plAll_bd (checkV_ok h1).1).1
  refine ⟨h1, ?_⟩
  unfold seatsV
  rw [if_neg (by omega), h2]
  rfl

set_option maxRecDepth 20000 in
set_option maxHeartbeats 4000000 in
theorem rplace_any {w : World} {V : Option Addr} {vc : Nat} {x : Ve} (hv : Sl secR w (.slice V x.secs.length vc) x.secs) (seat : Int) :
    Calls Tryz.prog 53 #[.agg #[.int .i64 x.shards, .int .i64 x.ttl, .int .i64 x.session, .slice V x.secs.length vc], .int .i64 seat] w fun e w' => e = .returned (.tuple #[.agg #[.int .i64 (placeV x seat).1.sec, .int .i64 (placeV x seat).1.row, .int .i64 (placeV x seat).1.seat], .int .i64 (placeV x seat).2]) ∧ Below w.heap.size w w' := by
  have C1 := Lib.hid (fun W (hb : Below w.heap.size w W) => rseats_any (x := x) (hv.up hb))
  have hbad := Lib.hid (fun h => seatsV_bad (x := x) h)
  have hgood := Lib.hid (fun h => seatsV_good (x := x) h)
  generalize seatsV x = K at C1 hbad hgood
  obtain ⟨kn, ke⟩ := K
  simp only at C1 hbad hgood
  have HV := Lib.hid hv
  obtain ⟨R, hR⟩ : ∃ R, placeV x seat = R := ⟨_, rfl⟩
  rw [hR]
  have HRR := Lib.hid hR
  obtain ⟨⟨r0, r1, r2⟩, re⟩ := R
  dsimp only
  obtain ⟨q, hq⟩ : ∃ q, w.heap.size = q := ⟨_, rfl⟩
  have HQ := Lib.hid hq
  obtain ⟨cs, hcs⟩ : ∃ cs : List Value, cs = [.int .i64 x.shards, .int .i64 x.ttl, .int .i64 x.session, .slice V x.secs.length vc] := ⟨_, rfl⟩
  have HCS := Lib.hid hcs
  have K0 := Lib.hid (show Cells ((w.alloc (.cells #[.int .i64 x.shards, .int .i64 x.ttl, .int .i64 x.session, .slice V x.secs.length vc] 24)).alloc (.cells #[.int .i64 0, .int .i64 0, .int .i64 0] 103)) q cs ∧
      Cells ((w.alloc (.cells #[.int .i64 x.shards, .int .i64 x.ttl, .int .i64 x.session, .slice V x.secs.length vc] 24)).alloc (.cells #[.int .i64 0, .int .i64 0, .int .i64 0] 103)) (q + 1) [.int .i64 0, .int .i64 0, .int .i64 0] from
    ⟨by rw [hcs]; exact (Cells.newS _ _ _ _ hq.symm).alloc _, Cells.newS _ _ _ _ (by simp [hq])⟩)
  clear hcs hv hR
  go_enter Tryz.func53, Tryz.ntmps53
  go_wp2_with fail
  refine (C1.out _ (bal (ba _ _))).mono ?_
  rintro e w1 ⟨rfl, hb1⟩
  have K1 := Lib.hid (K0.out.1.later hb1)
  have K2 := Lib.hid (K0.out.2.later hb1)
  have HB := Lib.hid ((bal (ba w _)).trans (hb1.mono (bal (ba w _)).size))
  clear hb1 K0 C1 hq
  have k0 := K1.out
  rw [HCS.out] at k0
  have c0 := k0.c 0 _ rfl
  have c1 := k0.c 1 _ rfl
  have c2 := k0.c 2 _ rfl
  have c3 := k0.c 3 _ rfl
  have y0 := k0.lt
  have d0 := K2.out.c 0 _ rfl
  have d1 := K2.out.c 1 _ rfl
  have d2 := K2.out.c 2 _ rfl
  have f0 := K2.out.f 0
  have f1 := K2.out.f 1
  have f2 := K2.out.f 2
  have y1 := K2.out.lt
  clear k0
  have hwq : w.heap.size ≤ q + 1 := by have := HQ.out; omega
  by_cases he : ke = 0
  case neg => as_aux_lemma =>
    have t0 : (ke == 0) = false := by simpa using he
    have t1 : (ke != 0) = true := by simpa using he
    have hb := hbad.out he
    obtain ⟨hb1, hb2⟩ := hb
    injection hb2 with e1 e2
    have hp := placeV_bad (seat := seat) hb1
    rw [HRR.out, ← e2] at hp
    injection hp with hp1 hp2
    injection hp1 with p0 p1 p2
    subst p0 p1 p2 hp2
    clear e1 e2 hb1
    go_wp2_with fail
    obtain ⟨k3, hg⟩ := K2.out.put [.int .i64 0, .int .i64 0, .int .i64 0] rfl
    refine at_world (fun W => Below w.heap.size w W ∧ Cells W (q + 1) [.int .i64 0, .int .i64 0, .int .i64 0]) ⟨HB.out.grown hg HB.out.size (fun j hj => by injection hj with hj; omega), k3⟩ fun w2 ⟨hb2, k4⟩ => ?_
    have g0 := k4.c 0 _ rfl
    have g1 := k4.c 1 _ rfl
    have g2 := k4.c 2 _ rfl
    exact bodyPost_ret (v := .tuple #[.agg #[.int .i64 0, .int .i64 0, .int .i64 0], .int .i64 re]) (by simp [results, Tryz.results53, go_sem, g0, g1, g2]) rfl ⟨rfl, hb2⟩
  subst he
  obtain ⟨hc, hs⟩ := hgood.out rfl
  injection hs with hs _
  subst hs
  have HC := Lib.hid hc
  have hsok := (checkV_ok hc).1
  have CP := Lib.hid (fun W (hb : Below w1.heap.size w1 W) => rplaces_any (sh := x.shards) (ttl := x.ttl) (ses := x.session) ((HV.out.up HB.out).up hb) hsok)
  unfold PlacesPost at CP
  have hnone := Lib.hid (fun h => placeV_none (x := x) (seat := seat) hc h)
  have hsome := Lib.hid (fun (k : Nat) hk => placeV_some (x := x) (k := k) hc hk)
  clear hbad hgood hc hsok
  generalize plAll x.secs 0 = pls at CP hnone hsome
  by_cases h1 : seat < 0
  case pos => as_aux_lemma =>
    have t1 : decide (seat < 0) = true := decide_eq_true h1
    have hp := hnone.out (.inl h1)
    rw [HRR.out] at hp
    injection hp with hp1 hp2
    injection hp1 with p0 p1 p2
    subst p0 p1 p2 hp2
    clear h1
    go_wp2_with fail
    obtain ⟨k3, hg⟩ := K2.out.put [.int .i64 0, .int .i64 0, .int .i64 0] rfl
    refine at_world (fun W => Below w.heap.size w W ∧ Cells W (q + 1) [.int .i64 0, .int .i64 0, .int .i64 0]) ⟨HB.out.grown hg HB.out.size (fun j hj => by injection hj with hj; omega), k3⟩ fun w2 ⟨hb2, k4⟩ => ?_
    have g0 := k4.c 0 _ rfl
    have g1 := k4.c 1 _ rfl
    have g2 := k4.c 2 _ rfl
    exact bodyPost_ret (v := .tuple #[.agg #[.int .i64 0, .int .i64 0, .int .i64 0], .int .i64 4]) (by simp [results, Tryz.results53, go_sem, g0, g1, g2]) rfl ⟨rfl, hb2⟩
  have t1 : decide (seat < 0) = false := decide_eq_false h1
  obtain ⟨k, rfl⟩ := Int.eq_ofNat_of_zero_le (Int.not_lt.1 h1)
  by_cases h2 : k < pls.length
  case neg => as_aux_lemma =>
    have t2 : decide ((pls.length : Int) ≤ (k : Int)) = true := decide_eq_true (by omega)
    have t3 : decide (pls.length ≤ k) = true := decide_eq_true (by omega)
    have hp := hnone.out (.inr (by omega))
    rw [HRR.out] at hp
    injection hp with hp1 hp2
    injection hp1 with p0 p1 p2
    subst p0 p1 p2 hp2
    clear h1 h2
    go_wp2_with fail
    obtain ⟨k3, hg⟩ := K2.out.put [.int .i64 0, .int .i64 0, .int .i64 0] rfl
    refine at_world (fun W => Below w.heap.size w W ∧ Cells W (q + 1) [.int .i64 0, .int .i64 0, .int .i64 0]) ⟨HB.out.grown hg HB.out.size (fun j hj => by injection hj with hj; omega), k3⟩ fun w2 ⟨hb2, k4⟩ => ?_
    have g0 := k4.c 0 _ rfl
    have g1 := k4.c 1 _ rfl
    have g2 := k4.c 2 _ rfl
    exact bodyPost_ret (v := .tuple #[.agg #[.int .i64 0, .int .i64 0, .int .i64 0], .int .i64 4]) (by simp [results, Tryz.results53, go_sem, g0, g1, g2]) rfl ⟨rfl, hb2⟩
  as_aux_lemma =>
    have t2 : decide ((pls.length : Int) ≤ (k : Int)) = false := decide_eq_false (by omega)
    have t3 : decide (pls.length ≤ k) = false := decide_eq_false (by omega)
    have hp := hsome.out k h2
    rw [HRR.out] at hp
    injection hp with hp1 hp2
    subst hp2
    have hk0 : (0 : Int) ≤ (k : Int) := by omega
    have hk1 : (k : Int) < (pls.length : Int) := by omega
    have HP1 := Lib.hid hp1
    clear h1 hp1
    go_wp2_with fail
    refine (CP.out _ (Below.refl _ _)).mono ?_
    rintro e w2 ⟨A, c, rfl, hown, hb2⟩
    obtain ⟨b, off, cs2, hA, hbl, his, hat⟩ := hown.sl.at_ h2
    subst hA
    obtain ⟨rfl, _⟩ := his
    rw [← HP1.out] at hat
    have a0 : w2.cell? ⟨b, off + k * 3, none⟩ = some (.int .i64 r0) := hat 0 _ rfl
    have a1 : w2.cell? ⟨b, off + k * 3 + 1, none⟩ = some (.int .i64 r1) := hat 1 _ rfl
    have a2 : w2.cell? ⟨b, off + k * 3 + 2, none⟩ = some (.int .i64 r2) := hat 2 _ rfl
    have K3 := Lib.hid (K2.out.later hb2)
    have HB2 := Lib.hid (HB.out.trans (hb2.mono HB.out.size))
    clear hb2 hown hat c0 c1 c2 c3 y0 y1 d0 d1 d2 f0 f1 f2
    have d0 := K3.out.c 0 _ rfl
    have d1 := K3.out.c 1 _ rfl
    have d2 := K3.out.c 2 _ rfl
    have f0 := K3.out.f 0
    have f1 := K3.out.f 1
    have f2 := K3.out.f 2
    have y1 := K3.out.lt
    go_wp2_with fail
    obtain ⟨k3, hg⟩ := K3.out.put [.int .i64 r0, .int .i64 r1, .int .i64 r2] rfl
    refine at_world (fun W => Below w.heap.size w W ∧ Cells W (q + 1) [.int .i64 r0, .int .i64 r1, .int .i64 r2]) ⟨HB2.out.grown hg HB2.out.size (fun j hj => by injection hj with hj; omega), k3⟩ fun w3 ⟨hb3, k4⟩ => ?_
    have g0 := k4.c 0 _ rfl
    have g1 := k4.c 1 _ rfl
    have g2 := k4.c 2 _ rfl
    exact bodyPost_ret (v := .tuple #[.agg #[.int .i64 r0, .int .i64 r1, .int .i64 r2], .int .i64 0]) (by simp [results, Tryz.results53, go_sem, g0, g1, g2]) rfl ⟨rfl, hb3⟩

theorem any_snoc {α : Type} (p : α → Bool) (l : List α) (k : Nat) (hk : k < l.length) : (l.take (k + 1)).any p = ((l.take k).any p || p l[k]) := by
  rw [List.take_succ_eq_append_getElem hk, List.any_append]
  simp

set_option maxRecDepth 20000 in
set_option maxHeartbeats 4000000 in
theorem rgood_any {W : World} {F : Frm} {s : Au} (R : IsAu W F s) : Calls Tryz.prog 17 #[auV F s] W fun e w' => e = .returned (.int .i64 (goodA s)) ∧ Below W.heap.size W w' := by
  have hT := Lib.hid (show goodA s = if (seatsV s.ve).2 ≠ 0 then (seatsV s.ve).2 else if s.now < 0 then 7
    else if ((s.seats.length : Int) != (seatsV s.ve).1 || (s.waiting.length : Int) != (s.ve.secs.length : Int)) || s.seats.any badA then 6
    else if waitBad s.waiting s.ve.secs then 6 else 0 from rfl)
  generalize goodA s = M at hT ⊢
  have C1 := Lib.hid (fun w (hw : Below W.heap.size W w) => rseats_any (x := s.ve) (R.vs.up hw))
  have HR := Lib.hid R
  have hn0 := Lib.hid (fun (h : (seatsV s.ve).2 ≠ 0) => (seatsV_bad h).2)
  have hn1 := Lib.hid (fun (h : (seatsV s.ve).2 = 0) => And.intro (seatsV_good h).2 (checkV_ok (seatsV_good h).1).1.1)
  generalize seatsV s.ve = K at C1 hT hn0 hn1
  obtain ⟨n, e⟩ := K
  simp only at C1 hT hn0 hn1
  unfold auV
  obtain ⟨ve, now, seats, waiting⟩ := s
  obtain ⟨V, vc, A, ac, B, bc⟩ := F
  dsimp only at *
  obtain ⟨q, hq⟩ : ∃ q, W.heap.size = q := ⟨_, rfl⟩
  have HQ := Lib.hid hq
  obtain ⟨cs, hcs⟩ : ∃ cs : List Value, cs = [.int .i64 ve.shards, .int .i64 ve.ttl, .int .i64 ve.session, .slice V ve.secs.length vc, .int .i64 now, .slice A seats.length ac, .slice B waiting.length bc] := ⟨_, rfl⟩
  have HCS := Lib.hid hcs
  have K0 := Lib.hid (show Cells (W.alloc (.cells #[.int .i64 ve.shards, .int .i64 ve.ttl, .int .i64 ve.session, .slice V ve.secs.length vc, .int .i64 now, .slice A seats.length ac, .slice B waiting.length bc] 37)) q cs by rw [hcs]; exact Cells.newS _ _ _ _ hq.symm)
  clear hcs R
  go_enter Tryz.func17, Tryz.ntmps17
  go_wp2_with fail
  refine (C1.out _ (ba _ _)).mono ?_
  rintro e1 w1 ⟨rfl, hb1⟩
  have K1 := Lib.hid (K0.out.later hb1)
  have HB := Lib.hid ((ba W _).trans (hb1.mono (ba W _).size))
  clear hb1 K0 C1 hq
  have k0 := K1.out
  rw [HCS.out] at k0
  have c3 := k0.c 3 _ rfl
  have c4 := k0.c 4 _ rfl
  have c5 := k0.c 5 _ rfl
  have c6 := k0.c 6 _ rfl
  have y0 := k0.lt
  clear k0
  have hcl := HR.out.ss.cap
  have hcw := HR.out.ws.cap
  have hcv := HR.out.vs.cap
  dsimp only at hcl hcw hcv
  have hl0 : (0 : Int) ≤ (seats.length : Int) := by omega
  by_cases he : e = 0
  case neg => as_aux_lemma =>
    have t0 : (e == 0) = false := by simpa using he
    have hM := Lib.hid (show M = e by rw [hT.out, if_pos he])
    obtain ⟨rfl, hx⟩ := Prod.mk.inj (hn0.out he)
    clear he hn0 hn1 hT hx
    go_wp2_with fail
    all_goals
      go_loopw [4, 5] (fun ev iv wr => ev = .int .i64 e ∧ iv = .int .i64 0 ∧ wr = w1) (fun _ _ _ => 0)
      case atStart => exact ⟨rfl, rfl, rfl⟩
      case round =>
        obtain ⟨rfl, rfl, rfl⟩ := hrel
        go_wp2_with fail
        all_goals
          go_loopw [4, 6] (fun ev iv w3 => ev = .int .i64 e ∧ iv = .int .i64 0 ∧ w3 = wr) (fun _ _ _ => 0)
          case atStart => exact ⟨rfl, rfl, rfl⟩
          case round =>
            obtain ⟨rfl, rfl, rfl⟩ := hrel
            go_wp2_with fail
            all_goals (go_ret; exact ⟨ret_int hM.out.symm, HB.out⟩)
  subst he
  obtain ⟨hnn, hs8⟩ := hn1.out rfl
  obtain ⟨hnn, hx⟩ := Prod.mk.inj hnn
  clear hx
  have hN0 : 0 ≤ n := by omega
  clear hnn hn0 hn1
  by_cases hnow : now < 0
  case pos => as_aux_lemma =>
    have t0 : decide (now < 0) = true := decide_eq_true hnow
    have hM := Lib.hid (show M = 7 by rw [hT.out, if_neg (by simp), if_pos hnow])
    clear hnow hT
    go_wp2_with fail
    all_goals
      go_loopw [4, 5] (fun ev iv wr => ev = .int .i64 7 ∧ iv = .int .i64 0 ∧ wr = w1) (fun _ _ _ => 0)
      case atStart => exact ⟨rfl, rfl, rfl⟩
      case round =>
        obtain ⟨rfl, rfl, rfl⟩ := hrel
        go_wp2_with fail
        all_goals
          go_loopw [4, 6] (fun ev iv w3 => ev = .int .i64 7 ∧ iv = .int .i64 0 ∧ w3 = wr) (fun _ _ _ => 0)
          case atStart => exact ⟨rfl, rfl, rfl⟩
          case round =>
            obtain ⟨rfl, rfl, rfl⟩ := hrel
            go_wp2_with fail
            all_goals (go_ret; exact ⟨ret_int hM.out.symm, HB.out⟩)
  have tn : decide (now < 0) = false := decide_eq_false hnow
  by_cases hlen : (seats.length : Int) = n ∧ (waiting.length : Int) = (ve.secs.length : Int)
  case neg => as_aux_lemma =>
    have hM := Lib.hid (show M = 6 by
      rw [hT.out, if_neg (by simp), if_neg hnow, if_pos]
      simp only [Bool.or_eq_true, bne_iff_ne, ne_eq]
      rcases Decidable.not_and_iff_or_not.1 hlen with h | h
      · exact .inl (.inl h)
      · exact .inl (.inr h))
    clear hnow hT
    by_cases h1 : (seats.length : Int) = n
    · have t1 : ((seats.length : Int) != n) = false := by simpa using h1
      have t2 : ((waiting.length : Int) != (ve.secs.length : Int)) = true := by simp; intro h; exact hlen ⟨h1, h⟩
      clear h1 hlen
      go_wp2_with fail
      all_goals
        go_loopw [4, 5] (fun ev iv wr => ev = .int .i64 6 ∧ iv = .int .i64 0 ∧ wr = w1) (fun _ _ _ => 0)
        case atStart => exact ⟨rfl, rfl, rfl⟩
        case round =>
          obtain ⟨rfl, rfl, rfl⟩ := hrel
          go_wp2_with fail
          all_goals
            go_loopw [4, 6] (fun ev iv w3 => ev = .int .i64 6 ∧ iv = .int .i64 0 ∧ w3 = wr) (fun _ _ _ => 0)
            case atStart => exact ⟨rfl, rfl, rfl⟩
            case round =>
              obtain ⟨rfl, rfl, rfl⟩ := hrel
              go_wp2_with fail
              all_goals (go_ret; exact ⟨ret_int hM.out.symm, HB.out⟩)
    · have t1 : ((seats.length : Int) != n) = true := by simpa using h1
      clear h1 hlen
      go_wp2_with fail
      all_goals
        go_loopw [4, 5] (fun ev iv wr => ev = .int .i64 6 ∧ iv = .int .i64 0 ∧ wr = w1) (fun _ _ _ => 0)
        case atStart => exact ⟨rfl, rfl, rfl⟩
        case round =>
          obtain ⟨rfl, rfl, rfl⟩ := hrel
          go_wp2_with fail
          all_goals
            go_loopw [4, 6] (fun ev iv w3 => ev = .int .i64 6 ∧ iv = .int .i64 0 ∧ w3 = wr) (fun _ _ _ => 0)
            case atStart => exact ⟨rfl, rfl, rfl⟩
            case round =>
              obtain ⟨rfl, rfl, rfl⟩ := hrel
              go_wp2_with fail
              all_goals (go_ret; exact ⟨ret_int hM.out.symm, HB.out⟩)
  obtain ⟨rfl, hwl⟩ := hlen
  have hwl2 : waiting.length = ve.secs.length := by omega
  have t1 : ((seats.length : Int) != (seats.length : Int)) = false := by simp
  have t2 : ((waiting.length : Int) != (ve.secs.length : Int)) = false := by simpa using hwl
  have hT2 := Lib.hid (show M = if seats.any badA = true then 6 else if waitBad waiting ve.secs = true then 6 else 0 by rw [hT.out, if_neg (by simp), if_neg hnow]; simp [hwl])
  clear hnow hT
  go_wp2_with fail
  clear tn t1 t2 c3 c4 c5 c6 y0 hwl
  go_loopw [4, 5] (fun ev iv wr => ∃ (i : Nat) (er : Int), i ≤ seats.length ∧ iv = .int .i64 (i : Nat) ∧ ev = .int .i64 er ∧ Hid (Below w1.heap.size w1 wr) ∧ ((er = 0 ∧ (seats.take i).any badA = false) ∨ (er = 6 ∧ seats.any badA = true))) (fun _ iv _ => seats.length - (intOf iv).toNat)
  case atStart => exact ⟨0, 0, by omega, rfl, rfl, Lib.hid (Below.refl _ _), .inl ⟨rfl, rfl⟩⟩
  case round =>
    obtain ⟨i, er, hi, rfl, rfl, D, hor⟩ := hrel
    have D' := Lib.hid (HB.out.trans (D.out.mono HB.out.size))
    have k0 := K1.out.later D.out
    rw [HCS.out] at k0
    have c3 := k0.c 3 _ rfl
    have c5 := k0.c 5 _ rfl
    have c6 := k0.c 6 _ rfl
    have y0 := k0.lt
    clear k0
    rcases hor with ⟨rfl, hno⟩ | ⟨rfl, hyes⟩
    case inr => as_aux_lemma =>
      have hM := Lib.hid (show M = 6 by rw [hT2.out, if_pos hyes])
      clear hyes hT2
      go_wp2_with fail
      all_goals
        go_loopw [4, 6] (fun ev iv w3 => ev = .int .i64 6 ∧ iv = .int .i64 0 ∧ w3 = wr) (fun _ _ _ => 0)
        case atStart => exact ⟨rfl, rfl, rfl⟩
        case round =>
          obtain ⟨rfl, rfl, rfl⟩ := hrel
          go_wp2_with fail
          all_goals (go_ret; exact ⟨ret_int hM.out.symm, D'.out⟩)
    by_cases hlt : i < seats.length
    case pos => as_aux_lemma =>
      have hz : decide ((i : Int) < (seats.length : Int)) = true := decide_eq_true (by omega)
      have hzn : decide (i < seats.length) = true := decide_eq_true hlt
      have hi0 : (0 : Int) ≤ (i : Int) := by omega
      have hi1 : (i : Int) < (seats.length : Int) := by omega
      obtain ⟨b, off, hA, hbl, e0, e1, e2, e3, e4, e5, _⟩ := (HR.out.ss.up D'.out).atE hlt
      dsimp only at hA
      subst hA
      have hsn := any_snoc badA seats i hlt
      rw [hno] at hsn
      have hmem : seats[i] ∈ seats := List.getElem_mem hlt
      have HSN := Lib.hid hsn
      have HMM := Lib.hid (fun (h : badA seats[i] = true) => show seats.any badA = true from List.any_eq_true.2 ⟨_, hmem, h⟩)
      have CB := Lib.hid (fun w => rseat_any seats[i] w)
      generalize seats[i] = x at e0 e1 e2 e3 e4 e5 HSN HMM CB hmem
      clear hsn hmem hno
      obtain ⟨so, hh, xo, xt, xs, xe⟩ := x
      dsimp only at e0 e1 e2 e3 e4 e5 CB
      cases hbd : badA ⟨so, hh, xo, xt, xs, xe⟩ with
      | true =>
        rw [hbd] at CB
        go_wp2_with fail
        refine (CB.out _).mono ?_
        rintro e w2 ⟨rfl, hb2⟩
        have D2 := Lib.hid (D.out.trans (hb2.mono D.out.size))
        clear hb2 e0 e1 e2 e3 e4 e5 c3 c5 c6 y0
        go_wp2_with fail
        go_roundw
        case rel => exact ⟨i + 1, 6, by omega, by go_num, rfl, D2, .inr ⟨rfl, HMM.out hbd⟩⟩
        case measure => simp [intOf]; omega
      | false =>
        rw [hbd] at CB
        go_wp2_with fail
        refine (CB.out _).mono ?_
        rintro e w2 ⟨rfl, hb2⟩
        have D2 := Lib.hid (D.out.trans (hb2.mono D.out.size))
        clear hb2 e0 e1 e2 e3 e4 e5 c3 c5 c6 y0
        go_wp2_with fail
        go_roundw
        case rel => exact ⟨i + 1, 0, by omega, by go_num, rfl, D2, .inl ⟨rfl, by rw [HSN.out, hbd]; rfl⟩⟩
        case measure => simp [intOf]; omega
    obtain rfl : i = seats.length := by omega
    rw [List.take_length] at hno
    have hT3 := Lib.hid (show M = if waitBad waiting ve.secs = true then 6 else 0 by rw [hT2.out, if_neg (by simp [hno])])
    have hz : decide ((seats.length : Int) < (seats.length : Int)) = false := decide_eq_false (by omega)
    have hzn : decide (seats.length < seats.length) = false := decide_eq_false (by omega)
    clear hno hlt hT2
    go_wp2_with fail
    clear hz c3 c5 c6 y0
    have HS := Lib.hid (show waiting.length = ve.secs.length from hwl2)
    go_loopw [4, 6] (fun ev iv w3 => ∃ (i : Nat) (er : Int), i ≤ waiting.length ∧ iv = .int .i64 (i : Nat) ∧ ev = .int .i64 er ∧ Hid (Below wr.heap.size wr w3) ∧ ((er = 0 ∧ ∀ k, k < i → (h1 : k < waiting.length) → (h2 : k < ve.secs.length) → 0 ≤ waiting[k] ∧ waiting[k] ≤ ve.secs[k].queue) ∨ (er = 6 ∧ waitBad waiting ve.secs = true))) (fun _ iv _ => waiting.length - (intOf iv).toNat)
    case atStart => exact ⟨0, 0, by omega, rfl, rfl, Lib.hid (Below.refl _ _), .inl ⟨rfl, fun k hk => absurd hk (by omega)⟩⟩
    case round =>
      obtain ⟨j, er, hj, rfl, rfl, DD, hor⟩ := hrel
      have D3 := Lib.hid (D'.out.trans (DD.out.mono D'.out.size))
      have k0 := (K1.out.later D.out).later DD.out
      rw [HCS.out] at k0
      have c3 := k0.c 3 _ rfl
      have c6 := k0.c 6 _ rfl
      have y0 := k0.lt
      clear k0
      rcases hor with ⟨rfl, hno⟩ | ⟨rfl, hyes⟩
      case inr => as_aux_lemma =>
        have hM := Lib.hid (show M = 6 by rw [hT3.out, if_pos hyes])
        clear hyes hT3
        go_wp2_with fail
        all_goals (go_ret; exact ⟨ret_int hM.out.symm, D3.out⟩)
      by_cases hlt : j < waiting.length
      case neg => as_aux_lemma =>
        obtain rfl : j = waiting.length := by omega
        have hM := Lib.hid (show M = 0 by rw [hT3.out, if_neg]; simp [waitBad_miss hwl2 fun k h1 h2 => hno k h1 h1 h2])
        have hw : decide ((waiting.length : Int) < (waiting.length : Int)) = false := decide_eq_false (by omega)
        have hwn : decide (waiting.length < waiting.length) = false := decide_eq_false (by omega)
        clear hno hT3
        go_wp2_with fail
        go_ret
        exact ⟨ret_int hM.out.symm, D3.out⟩
      as_aux_lemma =>
        have hlt2 : j < ve.secs.length := by omega
        have hw : decide ((j : Int) < (waiting.length : Int)) = true := decide_eq_true (by omega)
        have hwn : decide (j < waiting.length) = true := decide_eq_true hlt
        have hj0 : (0 : Int) ≤ (j : Int) := by omega
        have hj1 : (j : Int) < (waiting.length : Int) := by omega
        have hj2 : (j : Int) < (ve.secs.length : Int) := by omega
        obtain ⟨b, off, hB, hbl, e0, _⟩ := (HR.out.ws.up D3.out).atI hlt
        obtain ⟨b2, off2, A2, c2, hV, hbl2, g0, g1, g2, _⟩ := (HR.out.vs.up D3.out).atS hlt2
        dsimp only at hB hV
        subst hB hV
        have HNO := Lib.hid hno
        have HYE := Lib.hid (fun h => waitBad_hit hlt hlt2 h)
        have HEQ := Lib.hid (show ∀ k, k < j + 1 → k < j ∨ k = j from fun k hk => by omega)
        clear hno
        obtain ⟨wj, hwj⟩ : ∃ wj, waiting[j] = wj := ⟨_, rfl⟩
        obtain ⟨sj, hsj⟩ : ∃ sj, ve.secs[j] = sj := ⟨_, rfl⟩
        rw [hwj] at e0
        rw [hsj] at g0 g1 g2
        rw [hwj, hsj] at HYE
        have HWJ := Lib.hid hwj
        have HSJ := Lib.hid hsj
        clear hwj hsj
        obtain ⟨nm, rows, qu⟩ := sj
        dsimp only at g0 g1 g2 HYE
        by_cases h1 : wj < 0
        · have t1 : decide (wj < 0) = true := decide_eq_true h1
          have hyes := Lib.hid (HYE.out (.inl h1))
          clear h1
          go_wp2_with fail
          go_quiet (fail)
          go_wp2_with fail
          go_roundw
          case rel => exact ⟨j + 1, 6, by omega, by go_num, rfl, Lib.hid (bdN DD.out _), .inr ⟨rfl, hyes.out⟩⟩
          case measure => simp [intOf]; omega
        · have t1 : decide (wj < 0) = false := decide_eq_false h1
          by_cases h2 : qu < wj
          · have t2 : decide (qu < wj) = true := decide_eq_true h2
            have hyes := Lib.hid (HYE.out (.inr h2))
            clear h1 h2
            go_wp2_with fail
            go_quiet (fail)
            go_wp2_with fail
            go_roundw
            case rel => exact ⟨j + 1, 6, by omega, by go_num, rfl, Lib.hid (bdN DD.out _), .inr ⟨rfl, hyes.out⟩⟩
            case measure => simp [intOf]; omega
          · have t2 : decide (qu < wj) = false := decide_eq_false h2
            have HBD := Lib.hid (show 0 ≤ wj ∧ wj ≤ qu by omega)
            clear h1 h2
            go_wp2_with fail
            go_quiet (fail)
            go_wp2_with fail
            go_roundw
            case rel =>
              refine ⟨j + 1, 0, by omega, by go_num, rfl, Lib.hid (bdN DD.out _), .inl ⟨rfl, fun k hk h1 h2 => ?_⟩⟩
              rcases HEQ.out k hk with h | h
              · exact HNO.out k h h1 h2
              · subst h
                rw [HWJ.out, HSJ.out]
                exact HBD.out
            case measure => simp [intOf]; omega
end Go.Proofs.YtcomfhigbjkoeaaGreatDoor

namespace Go.Proofs.YtcomfhigbjkoeaaGreatDoor
open Go.RowKit

set_option maxRecDepth 100000 in
set_option maxHeartbeats 16000000 in
theorem rlost_any {W : World} {F : Frm} {s : Au} {op : MOp} {rp : MRp} (R : IsAu W F s) (hw : s.waiting.length = s.ve.secs.length) (hu : U32 op.tk.seat) : Calls Tryz.prog 37 #[auV F s, stV op rp] W fun e w' => e = .returned (.bool (lostA s op rp)) ∧ Below W.heap.size W w' := by
  have hT := Lib.hid (show lostA s op rp = if isB [1, 12] op.kind then false else if !isB [10, 11, 3] op.kind then (decide (seatA op < 0) || decide ((s.seats.length : Int) ≤ seatA op))
    else if decide (op.section_ < 0) || decide ((s.waiting.length : Int) ≤ op.section_) then true else if !isB [3] op.kind then false
    else if (rp.n != op.n || decide (op.n < 1)) || decide (8 < op.n) then true
    else ((placeV s.ve rp.seat).2 != 0 || (placeV s.ve rp.seat).1.sec != op.section_) || decide (rowOf s.ve (placeV s.ve rp.seat).1.sec.toNat (placeV s.ve rp.seat).1.row.toNat < (placeV s.ve rp.seat).1.seat + op.n) from rfl)
  generalize lostA s op rp = M at hT ⊢
  have CP := Lib.hid (fun w (hb : Below W.heap.size W w) => rplace_any (x := s.ve) (R.vs.up hb) rp.seat)
  have hok := Lib.hid (fun h => placeV_ok (x := s.ve) (seat := rp.seat) h)
  generalize placeV s.ve rp.seat = PP at CP hT hok
  have CS := Lib.hid (fun w => rspoken_any op w hu)
  generalize seatA op = S at CS hT
  have HR := Lib.hid R
  have hcl := R.ss.cap
  have hcv := R.vs.cap
  clear R hu
  unfold auV stV
  unfold opV at CS
  obtain ⟨⟨p1, p2, p3⟩, pe⟩ := PP
  obtain ⟨ve, now, seats, waiting⟩ := s
  obtain ⟨V, vc, A, ac, B, bc⟩ := F
  obtain ⟨ki, ow, ti, se, sc, nn, ot, ⟨ts, tow, tse, te⟩, onow⟩ := op
  obtain ⟨er, rs, rn, rd, ⟨us, uo, use_, ue⟩, pl⟩ := rp
  dsimp only at *
  rw [hw] at hT
  clear hw
  obtain ⟨q, hq⟩ : ∃ q, W.heap.size = q := ⟨_, rfl⟩
  obtain ⟨cs, hcs⟩ : ∃ cs : List Value, cs = [.int .i64 ve.shards, .int .i64 ve.ttl, .int .i64 ve.session, .slice V ve.secs.length vc, .int .i64 now, .slice A seats.length ac, .slice B waiting.length bc] := ⟨_, rfl⟩
  have HCS := Lib.hid hcs
  obtain ⟨xs, hxs⟩ : ∃ xs : List Value, xs = [.int .i64 ki, .int .u32 ow, .int .i64 ti, .int .i64 se, .int .i64 sc, .int .i64 nn, .int .u32 ot, .int .u32 ts, .int .u32 tow, .int .u64 tse, .int .u64 te, .int .i64 onow,
    .int .i64 er, .int .i64 rs, .int .i64 rn, .int .i64 rd, .int .u32 us, .int .u32 uo, .int .u64 use_, .int .u64 ue, .int .i64 pl] := ⟨_, rfl⟩
  have HXS := Lib.hid hxs
  go_enter Tryz.func37, Tryz.ntmps37
  go_wp2_with fail
  refine at_world (fun w => Below W.heap.size W w ∧ Cells w q cs ∧ Cells w (q + 1) xs) ⟨bal (ba _ _), by rw [hcs]; exact (Cells.newS _ _ _ _ hq.symm).alloc _, by rw [hxs]; exact Cells.newS _ _ _ _ (by simp [hq])⟩ fun w1 ⟨hb1, k1, k2⟩ => ?_
  have HB1 := Lib.hid hb1
  have K1 := Lib.hid k1
  have K2 := Lib.hid k2
  clear hb1 k1 k2 hcs hxs hq
  go_cut [5, 6] from 10 to 14 (fun v5 v6 W' => ∃ gx gy, v5 = .pointer (some ⟨gx, 0, none⟩) ∧ v6 = .pointer (some ⟨gy, 0, none⟩) ∧ Below w1.heap.size w1 W' ∧ Cells W' gx [.int .i64 ki, .int .u32 ow, .int .i64 ti, .int .i64 se, .int .i64 sc, .int .i64 nn, .int .u32 ot, .int .u32 ts, .int .u32 tow, .int .u64 tse, .int .u64 te, .int .i64 onow] ∧
      Cells W' gy [.int .i64 er, .int .i64 rs, .int .i64 rn, .int .i64 rd, .int .u32 us, .int .u32 uo, .int .u64 use_, .int .u64 ue, .int .i64 pl])
  case first => as_aux_lemma =>
    have k2 := K2.out
    rw [HXS.out] at k2
    have d0 := k2.c 0 _ rfl
    have d1 := k2.c 1 _ rfl
    have d2 := k2.c 2 _ rfl
    have d3 := k2.c 3 _ rfl
    have d4 := k2.c 4 _ rfl
    have d5 := k2.c 5 _ rfl
    have d6 := k2.c 6 _ rfl
    have d7 := k2.c 7 _ rfl
    have d8 := k2.c 8 _ rfl
    have d9 := k2.c 9 _ rfl
    have d10 := k2.c 10 _ rfl
    have d11 := k2.c 11 _ rfl
    have d12 := k2.c 12 _ rfl
    have d13 := k2.c 13 _ rfl
    have d14 := k2.c 14 _ rfl
    have d15 := k2.c 15 _ rfl
    have d16 := k2.c 16 _ rfl
    have d17 := k2.c 17 _ rfl
    have d18 := k2.c 18 _ rfl
    have d19 := k2.c 19 _ rfl
    have d20 := k2.c 20 _ rfl
    have y1 := k2.lt
    have y2 : q < w1.heap.size := by omega
    clear k2
    go_big_region
    all_goals (go_wp2_with fail; go_meet)
    all_goals first
      | exact ⟨_, _, rfl, rfl, bdd (bal (ba _ _)), (Cells.newS _ _ _ _ (by simp)).drew, ((Cells.newS _ _ _ _ rfl).alloc _).drew⟩
      | exact ⟨_, _, rfl, rfl, bdd (bal (ba _ _)), ((Cells.newS _ _ _ _ rfl).alloc _).drew, (Cells.newS _ _ _ _ (by simp)).drew⟩
  case rest =>
    obtain ⟨gx, gy, rfl, rfl, hb2, kx, ky⟩ := hcut
    have D := Lib.hid (HB1.out.trans (hb2.mono HB1.out.size))
    have L1 := Lib.hid (K1.out.later hb2)
    have KX := Lib.hid kx
    have KY := Lib.hid ky
    clear hb2 kx ky K1 K2 HB1
    have ks := L1.out
    rw [HCS.out] at ks
    have c3 := ks.c 3 _ rfl
    have c5 := ks.c 5 _ rfl
    have y0 := ks.lt
    have x0 := KX.out.c 0 _ rfl
    have y1 := KX.out.lt
    have y2 := KY.out.lt
    clear ks
    by_cases hk1 : ki = 1 ∨ ki = 12
    case pos => as_aux_lemma =>
      obtain rfl : M = false := by rw [hT.out, if_pos]; rcases hk1 with rfl | rfl <;> rfl
      clear hT
      rcases hk1 with rfl | rfl
      · go_wp2_with fail
        go_ret
        exact ⟨rfl, D.out⟩
      · go_wp2_with fail
        go_ret
        exact ⟨rfl, D.out⟩
    have h1 : ki ≠ 1 := fun h => hk1 (.inl h)
    have h12 : ki ≠ 12 := fun h => hk1 (.inr h)
    clear hk1
    have b1 : (ki == 1) = false := by simpa using h1
    have b12 : (ki == 12) = false := by simpa using h12
    by_cases hk2 : ki = 10 ∨ ki = 11 ∨ ki = 3
    case neg => as_aux_lemma =>
      have h10 : ki ≠ 10 := fun h => hk2 (.inl h)
      have h11 : ki ≠ 11 := fun h => hk2 (.inr (.inl h))
      have h3 : ki ≠ 3 := fun h => hk2 (.inr (.inr h))
      clear hk2
      have b10 : (ki == 10) = false := by simpa using h10
      have b11 : (ki == 11) = false := by simpa using h11
      have b3 : (ki == 3) = false := by simpa using h3
      have hM := Lib.hid (show M = (decide (S < 0) || decide ((seats.length : Int) ≤ S)) by rw [hT.out]; simp [isB, b1, b12, b10, b11, b3])
      clear hT h1 h12 h10 h11 h3
      have x1 := KX.out.c 1 _ rfl
      have x2 := KX.out.c 2 _ rfl
      have x3 := KX.out.c 3 _ rfl
      have x4 := KX.out.c 4 _ rfl
      have x5 := KX.out.c 5 _ rfl
      have x6 := KX.out.c 6 _ rfl
      have x7 := KX.out.c 7 _ rfl
      have x8 := KX.out.c 8 _ rfl
      have x9 := KX.out.c 9 _ rfl
      have x10 := KX.out.c 10 _ rfl
      have x11 := KX.out.c 11 _ rfl
      go_wp2_with fail
      refine (CS.out _).mono ?_
      rintro e w3 ⟨rfl, hb⟩
      have D3 := Lib.hid (D.out.trans (hb.mono D.out.size))
      have ks := L1.out.later hb
      rw [HCS.out] at ks
      clear c3 c5 y0 x0 x1 x2 x3 x4 x5 x6 x7 x8 x9 x10 x11 y1 y2
      have c5 := ks.c 5 _ rfl
      have y0 := ks.lt
      clear ks hb
      cases t1 : decide (S < 0) with
      | true =>
        go_wp2_with fail
        go_ret
        exact ⟨ret_bool (by rw [hM.out, t1]; rfl), D3.out⟩
      | false =>
        go_wp2_with fail
        go_ret
        exact ⟨ret_bool (by rw [hM.out, t1]; rfl), D3.out⟩
    clear CS h1 h12
    have x4 := KX.out.c 4 _ rfl
    have x5 := KX.out.c 5 _ rfl
    have z1 := KY.out.c 1 _ rfl
    have z2 := KY.out.c 2 _ rfl
    by_cases hsc : sc < 0 ∨ (ve.secs.length : Int) ≤ sc
    case pos => as_aux_lemma =>
      have hb : (decide (sc < 0) || decide ((ve.secs.length : Int) ≤ sc)) = true := by simpa using hsc
      obtain rfl : M = true := by rw [hT.out, if_neg (by rcases hk2 with rfl | rfl | rfl <;> simp [isB]), if_neg (by rcases hk2 with rfl | rfl | rfl <;> simp [isB]), if_pos hb]
      clear hT hb
      cases t1 : decide (sc < 0) with
      | true =>
        rcases hk2 with rfl | rfl | rfl
        all_goals
          go_wp2_with fail
          go_ret
          exact ⟨rfl, D.out⟩
      | false =>
        have t2 : decide ((ve.secs.length : Int) ≤ sc) = true := by
          rcases hsc with h | h
          · simp [h] at t1
          · exact decide_eq_true h
        clear hsc
        rcases hk2 with rfl | rfl | rfl
        all_goals
          go_wp2_with fail
          go_ret
          exact ⟨rfl, D.out⟩
    have t1 : decide (sc < 0) = false := decide_eq_false (by omega)
    have t2 : decide ((ve.secs.length : Int) ≤ sc) = false := decide_eq_false (by omega)
    by_cases hk3 : ki = 3
    case neg => as_aux_lemma =>
      have b3 : (ki != 3) = true := by simpa using hk3
      obtain rfl : M = false := by rw [hT.out, if_neg (by simp [isB, b1, b12]), if_neg (by rcases hk2 with rfl | rfl | rfl <;> simp [isB]), if_neg (by simp [t1, t2]), if_pos (by rcases hk2 with rfl | rfl | rfl <;> simp [isB] at hk3 ⊢)]
      clear hT
      rcases hk2 with rfl | rfl | rfl
      · go_wp2_with fail
        go_ret
        exact ⟨rfl, D.out⟩
      · go_wp2_with fail
        go_ret
        exact ⟨rfl, D.out⟩
      · exact absurd rfl hk3
    subst hk3
    have hM := Lib.hid (show M = if (rn != nn || decide (nn < 1)) || decide (8 < nn) then true else (pe != 0 || p1 != sc) || decide (rowOf ve p1.toNat p2.toNat < p3 + nn) by rw [hT.out, if_neg (by simp [isB]), if_neg (by simp [isB]), if_neg (by simp [t1, t2]), if_neg (by simp [isB])])
    clear hT hk2 b1 b12
    by_cases hrn : rn = nn
    case neg => as_aux_lemma =>
      have t3 : (rn != nn) = true := by simpa using hrn
      obtain rfl : M = true := by rw [hM.out, t3]; rfl
      clear hM hrn hsc
      go_wp2_with fail
      go_ret
      exact ⟨rfl, D.out⟩
    subst hrn
    have t3 : (rn != rn) = false := by simp
    by_cases hn1 : rn < 1
    case pos => as_aux_lemma =>
      have t4 : decide (rn < 1) = true := decide_eq_true hn1
      obtain rfl : M = true := by rw [hM.out, t3, t4]; rfl
      clear hM hn1 hsc
      go_wp2_with fail
      go_ret
      exact ⟨rfl, D.out⟩
    have t4 : decide (rn < 1) = false := decide_eq_false hn1
    by_cases hn8 : 8 < rn
    case pos => as_aux_lemma =>
      have t5 : decide (8 < rn) = true := decide_eq_true hn8
      obtain rfl : M = true := by rw [hM.out, t3, t4, t5]; rfl
      clear hM hn1 hn8 hsc
      go_wp2_with fail
      go_ret
      exact ⟨rfl, D.out⟩
    have t5 : decide (8 < rn) = false := decide_eq_false hn8
    have hM2 := Lib.hid (show M = ((pe != 0 || p1 != sc) || decide (rowOf ve p1.toNat p2.toNat < p3 + rn)) by rw [hM.out, t3, t4, t5]; rfl)
    clear hM
    have ks := L1.out
    rw [HCS.out] at ks
    have c0 := ks.c 0 _ rfl
    have c1 := ks.c 1 _ rfl
    have c2 := ks.c 2 _ rfl
    clear ks
    go_wp2_with fail
    refine (CP.out _ D.out).mono ?_
    rintro e w3 ⟨rfl, hb⟩
    have D3 := Lib.hid (D.out.trans (hb.mono D.out.size))
    have L3 := Lib.hid (L1.out.later hb)
    have KX3 := Lib.hid (KX.out.later hb)
    have KY3 := Lib.hid (KY.out.later hb)
    clear hb c0 c1 c2 c3 c5 y0 x0 x4 x5 y1 y2 z1 z2 CP D L1 KX KY t1 t2 t3 t4 t5
    by_cases q0 : pe = 0
    case neg => as_aux_lemma =>
      have b0 : (pe != 0) = true := by simpa using q0
      obtain rfl : M = true := by rw [hM2.out, b0]; rfl
      clear hM2 hok q0
      go_wp2_with fail
      go_ret
      exact ⟨rfl, bal D3.out⟩
    subst q0
    have x4 := KX3.out.c 4 _ rfl
    have y1 := KX3.out.lt
    by_cases q1 : p1 = sc
    case neg => as_aux_lemma =>
      have b1 : (p1 != sc) = true := by simpa using q1
      obtain rfl : M = true := by rw [hM2.out, b1]; simp
      clear hM2 hok q1
      go_wp2_with fail
      go_ret
      exact ⟨rfl, bal D3.out⟩
    subst q1
    as_aux_lemma =>
      obtain ⟨i, hi, j, hj, d, he, hd0, hd1, hd2, _⟩ := hok.out rfl
      injection he with e1 e2 e3
      subst e1 e2 e3
      have b1 : ((i : Int) != (i : Int)) = false := by simp
      obtain ⟨b, off, A2, c2, hV, hbl, g0, g1, g2, hin, _⟩ := (HR.out.vs.up D3.out).atS hi
      dsimp only at hV
      subst hV
      obtain ⟨b2, off2, hA2, hbl2, e0, _⟩ := hin.atI hj
      subst hA2
      have hM3 := Lib.hid (show M = decide (ve.secs[i].rows[j] < p3 + rn) by rw [hM2.out]; simp [rowOf, List.getElem?_eq_getElem hi, List.getElem?_eq_getElem hj])
      generalize ve.secs[i].rows[j] = rr at e0 hd1 hd2 hM3
      have hj1 : (j : Int) < (ve.secs[i].rows.length : Int) := by omega
      generalize ve.secs[i].rows.length = L at g1 hj1
      have hi0 : (0 : Int) ≤ (i : Int) := by omega
      have hi1 : (i : Int) < (ve.secs.length : Int) := by omega
      have hj0 : (0 : Int) ≤ (j : Int) := by omega
      have hwr : IntKind.i64.wrap (p3 + rn) = p3 + rn := IntWalk.i64_in _ (by omega)
      have ks := L3.out
      rw [HCS.out] at ks
      have c3 := ks.c 3 _ rfl
      have y0 := ks.lt
      have z2 := KY3.out.c 2 _ rfl
      have y2 := KY3.out.lt
      clear ks hM2 hin g0 g2 hok
      go_wp2_with fail
      refine at_world (fun w => Below w3.heap.size w3 w ∧ Cells w w3.heap.size [.int .i64 (i : Int), .int .i64 (j : Int), .int .i64 p3]) ⟨ba _ _, Cells.new _ _ _⟩ fun w4 ⟨hb4, k4⟩ => ?_
      have D4 := Lib.hid (D3.out.trans (hb4.mono D3.out.size))
      have v3 := cell_later hb4 c3
      have v1 := cell_later hb4 g1
      have r0 := cell_later hb4 e0
      have n2 := cell_later hb4 z2
      have v0 := k4.c 0 _ rfl
      have v2 := k4.c 1 _ rfl
      have v4 := k4.c 2 _ rfl
      have s0 := k4.lt
      have s1 := hb4.size
      have s2 : q < w4.heap.size := by omega
      have s3 : gy < w4.heap.size := by omega
      have s4 : b < w4.heap.size := by omega
      have s5 : b2 < w4.heap.size := by omega
      clear hb4 k4 c3 g1 e0 z2 x4 y0 y1 y2 b1 s1 hbl hbl2
      go_quiet (fail)
      go_wp2_with fail
      go_ret
      exact ⟨ret_bool hM3.out.symm, bdN D4.out _⟩
end Go.Proofs.YtcomfhigbjkoeaaGreatDoor

namespace Go.Proofs.YtcomfhigbjkoeaaGreatDoor
open Go.RowKit

def nilF : Frm := ⟨none, 0, none, 0, none, 0⟩
def NewPost2 (w : World) (V : Option Addr) (vc : Nat) (x : Ve) (e : Ending) (w' : World) : Prop := ∃ F, e = .returned (.tuple #[auV F (newA x).1, .int .i64 (newA x).2]) ∧ Below w.heap.size w w' ∧
  ((newA x).2 = 0 → ∃ a b, F = ownF V vc a b (newA x).1 ∧ a ≠ b ∧ Own seR 75 w.heap.size w' (.slice (some ⟨a, 0, none⟩) (newA x).1.seats.length (newA x).1.seats.length) (newA x).1.seats ∧
    Own intR 3 w.heap.size w' (.slice (some ⟨b, 0, none⟩) (newA x).1.waiting.length (newA x).1.waiting.length) (newA x).1.waiting) ∧ ((newA x).2 ≠ 0 → F = nilF)

set_option maxRecDepth 20000 in
set_option maxHeartbeats 4000000 in
theorem new2_any {W : World} {V : Option Addr} {vc : Nat} {x : Ve} (hv : Sl secR W (.slice V x.secs.length vc) x.secs) (h1 : Bd x.shards) (h2 : Bd x.ttl) (h3 : Bd x.session) :
    Calls Tryz.prog 13 #[.agg #[.int .i64 x.shards, .int .i64 x.ttl, .int .i64 x.session, .slice V x.secs.length vc]] W (NewPost2 W V vc x) := by
  have C1 := Lib.hid (fun w (hw : Below W.heap.size W w) => seats_any _ x w ⟨V, vc, rfl, hv.up hw, h1, h2, h3⟩)
  have hT := Lib.hid (show newA x = if (seatsV x).2 ≠ 0 then (zeroAu, (seatsV x).2) else (⟨x, 0, List.replicate (seatsV x).1.toNat zeroSe, List.replicate x.secs.length 0⟩, 0) from rfl)
  have hok := Lib.hid (show (seatsV x).2 = 0 → 0 ≤ (seatsV x).1 ∧ (seatsV x).1 ≤ 4096 ∧ x.secs.length ≤ 8 by
    intro h
    unfold seatsV at h ⊢
    by_cases hc : (checkV x).2 ≠ 0
    · rw [if_pos hc] at h; exact absurd h hc
    · rw [if_neg hc]
      have h4 := checkV_ok (Decidable.not_not.1 hc)
      refine ⟨?_, h4.2.1, h4.1.1⟩
      have h5 := upTo_bd (k := x.secs.length) (Nat.le_refl _) fun i hi _ => h4.1.2 i hi
      have h6 : upTo x.secs x.secs.length = sum (allRows x) := by simp [upTo, allRows]
      omega)
  have hx := Lib.hid (show Sl secR W (.slice V x.secs.length vc) x.secs from hv)
  generalize seatsV x = E at C1 hT hok
  obtain ⟨n, e⟩ := E
  simp only at C1 hT hok
  clear hv h1 h2 h3
  go_enter Tryz.func13, Tryz.ntmps13
  go_wp2_with fail
  refine (C1.out _ (bal (ba _ _))).mono ?_
  rintro e1 w1 ⟨rfl, hb⟩
  have HB := Lib.hid ((bal (ba W _)).trans (hb.mono (bal (ba W _)).size))
  have k1 := ((Cells.new W [.int .i64 x.shards, .int .i64 x.ttl, .int .i64 x.session, .slice V x.secs.length vc] 24).alloc (.cells #[.int .i64 0, .int .i64 0, .int .i64 0, .slice none 0 0, .int .i64 0, .slice none 0 0, .slice none 0 0] 37)).later hb
  have k2 := (Cells.new (W.alloc (.cells #[.int .i64 x.shards, .int .i64 x.ttl, .int .i64 x.session, .slice V x.secs.length vc] 24)) [.int .i64 0, .int .i64 0, .int .i64 0, .slice none 0 0, .int .i64 0, .slice none 0 0, .slice none 0 0] 37).later hb
  rw [World.size_alloc] at k2
  have K1 := Lib.hid k1
  have K2 := Lib.hid k2
  have d0 := k2.c 0 _ rfl
  have f0 := k2.f 0
  have d1 := k2.c 1 _ rfl
  have f1 := k2.f 1
  have d2 := k2.c 2 _ rfl
  have f2 := k2.f 2
  have d3 := k2.c 3 _ rfl
  have f3 := k2.f 3
  have d4 := k2.c 4 _ rfl
  have f4 := k2.f 4
  have d5 := k2.c 5 _ rfl
  have f5 := k2.f 5
  have d6 := k2.c 6 _ rfl
  have f6 := k2.f 6
  have c0 := k1.c 0 _ rfl
  have c1 := k1.c 1 _ rfl
  have c2 := k1.c 2 _ rfl
  have c3 := k1.c 3 _ rfl
  have y1 := k1.lt
  have y2 := k2.lt
  clear hb k1 k2 C1
  by_cases he : e = 0
  case neg =>
    have t0 : (e != 0) = true := by simpa using he
    have hN := Lib.hid (show newA x = (zeroAu, e) by rw [hT.out, if_pos he])
    go_wp2_with fail
    obtain ⟨k3, hg⟩ := K2.out.put [.int .i64 0, .int .i64 0, .int .i64 0, .slice none 0 0, .int .i64 0, .slice none 0 0, .slice none 0 0] rfl
    refine at_world (fun w => Below W.heap.size W w ∧ Cells w (W.heap.size + 1) [.int .i64 0, .int .i64 0, .int .i64 0, .slice none 0 0, .int .i64 0, .slice none 0 0, .slice none 0 0]) ⟨HB.out.grown hg (by have := HB.out.size; omega) (fun j hj => by injection hj with hj; omega), k3⟩ fun w2 ⟨hb2, k4⟩ => ?_
    have g0 := k4.c 0 _ rfl
    have g1 := k4.c 1 _ rfl
    have g2 := k4.c 2 _ rfl
    have g3 := k4.c 3 _ rfl
    have g4 := k4.c 4 _ rfl
    have g5 := k4.c 5 _ rfl
    have g6 := k4.c 6 _ rfl
    refine bodyPost_ret (v := .tuple #[.agg #[.int .i64 0, .int .i64 0, .int .i64 0, .slice none 0 0, .int .i64 0, .slice none 0 0, .slice none 0 0], .int .i64 e]) (by simp [results, Tryz.results13, go_sem, g0, g1, g2, g3, g4, g5, g6]) rfl ⟨⟨none, 0, none, 0, none, 0⟩, by rw [hN.out]; rfl, hb2, fun h => by rw [hN.out] at h; exact absurd h he, fun _ => rfl⟩
  subst he
  obtain ⟨hn0, hn1, hm⟩ := hok.out rfl
  obtain ⟨k, rfl⟩ := Int.eq_ofNat_of_zero_le hn0
  have hN := Lib.hid (show newA x = (⟨x, 0, List.replicate k zeroSe, List.replicate x.secs.length 0⟩, 0) by rw [hT.out, if_neg (by simp), Int.toNat_natCast])
  have hmk1 := mk_seats k (by omega)
  have hmk2 := mk_ints x.secs.length (by omega)
  clear hT hok
  go_wp2_with fail
  go_region
  all_goals clear d0 d1 d2 d3 d4 d5 d6 f0 f1 f2 f3 f4 f5 f6 c0 c1 c2 c3
  · go_wp2_with fail
    have hE := new_end1 (V := V) (vc := vc) (x := x) (g := W.heap.size + 1) (k := k) (W := W) (w1 := w1) rfl HB.out (by omega) K2.out (by omega) (by omega)
    simp only [putAt, Nat.zero_add, Nat.reduceAdd] at hE
    refine at_world (fun w => Below W.heap.size W w ∧ Cells w (W.heap.size + 1) [.int .i64 x.shards, .int .i64 x.ttl, .int .i64 x.session, .slice V x.secs.length vc, .int .i64 0, .slice (some ⟨w1.heap.size, 0, none⟩) k k, .slice (some ⟨(w1.heap.size + 1), 0, none⟩) x.secs.length x.secs.length] ∧ Own seR 75 W.heap.size w (.slice (some ⟨w1.heap.size, 0, none⟩) k k) (List.replicate k zeroSe) ∧ Own intR 3 W.heap.size w (.slice (some ⟨(w1.heap.size + 1), 0, none⟩) x.secs.length x.secs.length) (List.replicate x.secs.length 0)) hE fun w2 ⟨hb2, k4, o1, o2⟩ => ?_
    clear hE
    have g0 := k4.c 0 _ rfl
    have g1 := k4.c 1 _ rfl
    have g2 := k4.c 2 _ rfl
    have g3 := k4.c 3 _ rfl
    have g4 := k4.c 4 _ rfl
    have g5 := k4.c 5 _ rfl
    have g6 := k4.c 6 _ rfl
    refine bodyPost_ret (v := .tuple #[.agg #[.int .i64 x.shards, .int .i64 x.ttl, .int .i64 x.session, .slice V x.secs.length vc, .int .i64 0, .slice (some ⟨w1.heap.size, 0, none⟩) k k, .slice (some ⟨(w1.heap.size + 1), 0, none⟩) x.secs.length x.secs.length], .int .i64 0]) (by simp [results, Tryz.results13, go_sem, g0, g1, g2, g3, g4, g5, g6]) rfl ⟨ownF V vc w1.heap.size (w1.heap.size + 1) ⟨x, 0, List.replicate k zeroSe, List.replicate x.secs.length 0⟩, ?_, hb2, fun _ => ⟨w1.heap.size, (w1.heap.size + 1), ?_⟩, fun h => by rw [hN.out] at h; exact absurd rfl h⟩
    · rw [hN.out]; simp [auV, ownF]
    · rw [hN.out]; simp only [List.length_replicate]; exact ⟨by first | trivial | rfl, by omega, o1, o2⟩
  · go_wp2_with fail
    have hE := new_end2 (V := V) (vc := vc) (x := x) (g := W.heap.size + 1) (k := k) (W := W) (w1 := w1) rfl HB.out (by omega) K2.out (by omega) (by omega)
    simp only [putAt, Nat.zero_add, Nat.reduceAdd] at hE
    refine at_world (fun w => Below W.heap.size W w ∧ Cells w (W.heap.size + 1) [.int .i64 x.shards, .int .i64 x.ttl, .int .i64 x.session, .slice V x.secs.length vc, .int .i64 0, .slice (some ⟨(w1.heap.size + 1), 0, none⟩) k k, .slice (some ⟨w1.heap.size, 0, none⟩) x.secs.length x.secs.length] ∧ Own seR 75 W.heap.size w (.slice (some ⟨(w1.heap.size + 1), 0, none⟩) k k) (List.replicate k zeroSe) ∧ Own intR 3 W.heap.size w (.slice (some ⟨w1.heap.size, 0, none⟩) x.secs.length x.secs.length) (List.replicate x.secs.length 0)) hE fun w2 ⟨hb2, k4, o1, o2⟩ => ?_
    clear hE
    have g0 := k4.c 0 _ rfl
    have g1 := k4.c 1 _ rfl
    have g2 := k4.c 2 _ rfl
    have g3 := k4.c 3 _ rfl
    have g4 := k4.c 4 _ rfl
    have g5 := k4.c 5 _ rfl
    have g6 := k4.c 6 _ rfl
    refine bodyPost_ret (v := .tuple #[.agg #[.int .i64 x.shards, .int .i64 x.ttl, .int .i64 x.session, .slice V x.secs.length vc, .int .i64 0, .slice (some ⟨(w1.heap.size + 1), 0, none⟩) k k, .slice (some ⟨w1.heap.size, 0, none⟩) x.secs.length x.secs.length], .int .i64 0]) (by simp [results, Tryz.results13, go_sem, g0, g1, g2, g3, g4, g5, g6]) rfl ⟨ownF V vc (w1.heap.size + 1) w1.heap.size ⟨x, 0, List.replicate k zeroSe, List.replicate x.secs.length 0⟩, ?_, hb2, fun _ => ⟨(w1.heap.size + 1), w1.heap.size, ?_⟩, fun h => by rw [hN.out] at h; exact absurd rfl h⟩
    · rw [hN.out]; simp [auV, ownF]
    · rw [hN.out]; simp only [List.length_replicate]; exact ⟨by first | trivial | rfl, by omega, o1, o2⟩

set_option maxRecDepth 20000 in
set_option maxHeartbeats 4000000 in
theorem rnew_any {W : World} {V : Option Addr} {vc : Nat} {x : Ve} (hv : Sl secR W (.slice V x.secs.length vc) x.secs) :
    Calls Tryz.prog 14 #[.agg #[.int .i64 x.shards, .int .i64 x.ttl, .int .i64 x.session, .slice V x.secs.length vc]] W (NewPost2 W V vc x) := by
  have C1 := Lib.hid (fun w (hw : Below W.heap.size W w) => rseats_any (x := x) (hv.up hw))
  have hT := Lib.hid (show newA x = if (seatsV x).2 ≠ 0 then (zeroAu, (seatsV x).2) else (⟨x, 0, List.replicate (seatsV x).1.toNat zeroSe, List.replicate x.secs.length 0⟩, 0) from rfl)
  have hok := Lib.hid (show (seatsV x).2 = 0 → 0 ≤ (seatsV x).1 ∧ (seatsV x).1 ≤ 4096 ∧ x.secs.length ≤ 8 by
    intro h
    unfold seatsV at h ⊢
    by_cases hc : (checkV x).2 ≠ 0
    · rw [if_pos hc] at h; exact absurd h hc
    · rw [if_neg hc]
      have h4 := checkV_ok (Decidable.not_not.1 hc)
      refine ⟨?_, h4.2.1, h4.1.1⟩
      have h5 := upTo_bd (k := x.secs.length) (Nat.le_refl _) fun i hi _ => h4.1.2 i hi
      have h6 : upTo x.secs x.secs.length = sum (allRows x) := by simp [upTo, allRows]
      omega)
  have hx := Lib.hid (show Sl secR W (.slice V x.secs.length vc) x.secs from hv)
  generalize seatsV x = E at C1 hT hok
  obtain ⟨n, e⟩ := E
  simp only at C1 hT hok
  clear hv
  go_enter Tryz.func14, Tryz.ntmps14
  go_wp2_with fail
  refine (C1.out _ (bal (ba _ _))).mono ?_
  rintro e1 w1 ⟨rfl, hb⟩
  have HB := Lib.hid ((bal (ba W _)).trans (hb.mono (bal (ba W _)).size))
  have k1 := ((Cells.new W [.int .i64 x.shards, .int .i64 x.ttl, .int .i64 x.session, .slice V x.secs.length vc] 24).alloc (.cells #[.int .i64 0, .int .i64 0, .int .i64 0, .slice none 0 0, .int .i64 0, .slice none 0 0, .slice none 0 0] 37)).later hb
  have k2 := (Cells.new (W.alloc (.cells #[.int .i64 x.shards, .int .i64 x.ttl, .int .i64 x.session, .slice V x.secs.length vc] 24)) [.int .i64 0, .int .i64 0, .int .i64 0, .slice none 0 0, .int .i64 0, .slice none 0 0, .slice none 0 0] 37).later hb
  rw [World.size_alloc] at k2
  have K1 := Lib.hid k1
  have K2 := Lib.hid k2
  have d0 := k2.c 0 _ rfl
  have f0 := k2.f 0
  have d1 := k2.c 1 _ rfl
  have f1 := k2.f 1
  have d2 := k2.c 2 _ rfl
  have f2 := k2.f 2
  have d3 := k2.c 3 _ rfl
  have f3 := k2.f 3
  have d4 := k2.c 4 _ rfl
  have f4 := k2.f 4
  have d5 := k2.c 5 _ rfl
  have f5 := k2.f 5
  have d6 := k2.c 6 _ rfl
  have f6 := k2.f 6
  have c0 := k1.c 0 _ rfl
  have c1 := k1.c 1 _ rfl
  have c2 := k1.c 2 _ rfl
  have c3 := k1.c 3 _ rfl
  have y1 := k1.lt
  have y2 := k2.lt
  clear hb k1 k2 C1
  by_cases he : e = 0
  case neg =>
    have t0 : (e != 0) = true := by simpa using he
    have hN := Lib.hid (show newA x = (zeroAu, e) by rw [hT.out, if_pos he])
    go_wp2_with fail
    obtain ⟨k3, hg⟩ := K2.out.put [.int .i64 0, .int .i64 0, .int .i64 0, .slice none 0 0, .int .i64 0, .slice none 0 0, .slice none 0 0] rfl
    refine at_world (fun w => Below W.heap.size W w ∧ Cells w (W.heap.size + 1) [.int .i64 0, .int .i64 0, .int .i64 0, .slice none 0 0, .int .i64 0, .slice none 0 0, .slice none 0 0]) ⟨HB.out.grown hg (by have := HB.out.size; omega) (fun j hj => by injection hj with hj; omega), k3⟩ fun w2 ⟨hb2, k4⟩ => ?_
    have g0 := k4.c 0 _ rfl
    have g1 := k4.c 1 _ rfl
    have g2 := k4.c 2 _ rfl
    have g3 := k4.c 3 _ rfl
    have g4 := k4.c 4 _ rfl
    have g5 := k4.c 5 _ rfl
    have g6 := k4.c 6 _ rfl
    refine bodyPost_ret (v := .tuple #[.agg #[.int .i64 0, .int .i64 0, .int .i64 0, .slice none 0 0, .int .i64 0, .slice none 0 0, .slice none 0 0], .int .i64 e]) (by simp [results, Tryz.results14, go_sem, g0, g1, g2, g3, g4, g5, g6]) rfl ⟨⟨none, 0, none, 0, none, 0⟩, by rw [hN.out]; rfl, hb2, fun h => by rw [hN.out] at h; exact absurd h he, fun _ => rfl⟩
  subst he
  obtain ⟨hn0, hn1, hm⟩ := hok.out rfl
  obtain ⟨k, rfl⟩ := Int.eq_ofNat_of_zero_le hn0
  have hN := Lib.hid (show newA x = (⟨x, 0, List.replicate k zeroSe, List.replicate x.secs.length 0⟩, 0) by rw [hT.out, if_neg (by simp), Int.toNat_natCast])
  have hmk1 := mk_seats k (by omega)
  have hmk2 := mk_ints x.secs.length (by omega)
  clear hT hok
  go_wp2_with fail
  go_region
  all_goals clear d0 d1 d2 d3 d4 d5 d6 f0 f1 f2 f3 f4 f5 f6 c0 c1 c2 c3
  · go_wp2_with fail
    have hE := new_end1 (V := V) (vc := vc) (x := x) (g := W.heap.size + 1) (k := k) (W := W) (w1 := w1) rfl HB.out (by omega) K2.out (by omega) (by omega)
    simp only [putAt, Nat.zero_add, Nat.reduceAdd] at hE
    refine at_world (fun w => Below W.heap.size W w ∧ Cells w (W.heap.size + 1) [.int .i64 x.shards, .int .i64 x.ttl, .int .i64 x.session, .slice V x.secs.length vc, .int .i64 0, .slice (some ⟨w1.heap.size, 0, none⟩) k k, .slice (some ⟨(w1.heap.size + 1), 0, none⟩) x.secs.length x.secs.length] ∧ Own seR 75 W.heap.size w (.slice (some ⟨w1.heap.size, 0, none⟩) k k) (List.replicate k zeroSe) ∧ Own intR 3 W.heap.size w (.slice (some ⟨(w1.heap.size + 1), 0, none⟩) x.secs.length x.secs.length) (List.replicate x.secs.length 0)) hE fun w2 ⟨hb2, k4, o1, o2⟩ => ?_
    clear hE
    have g0 := k4.c 0 _ rfl
    have g1 := k4.c 1 _ rfl
    have g2 := k4.c 2 _ rfl
    have g3 := k4.c 3 _ rfl
    have g4 := k4.c 4 _ rfl
    have g5 := k4.c 5 _ rfl
    have g6 := k4.c 6 _ rfl
    refine bodyPost_ret (v := .tuple #[.agg #[.int .i64 x.shards, .int .i64 x.ttl, .int .i64 x.session, .slice V x.secs.length vc, .int .i64 0, .slice (some ⟨w1.heap.size, 0, none⟩) k k, .slice (some ⟨(w1.heap.size + 1), 0, none⟩) x.secs.length x.secs.length], .int .i64 0]) (by simp [results, Tryz.results14, go_sem, g0, g1, g2, g3, g4, g5, g6]) rfl ⟨ownF V vc w1.heap.size (w1.heap.size + 1) ⟨x, 0, List.replicate k zeroSe, List.replicate x.secs.length 0⟩, ?_, hb2, fun _ => ⟨w1.heap.size, (w1.heap.size + 1), ?_⟩, fun h => by rw [hN.out] at h; exact absurd rfl h⟩
    · rw [hN.out]; simp [auV, ownF]
    · rw [hN.out]; simp only [List.length_replicate]; exact ⟨by first | trivial | rfl, by omega, o1, o2⟩
  · go_wp2_with fail
    have hE := new_end2 (V := V) (vc := vc) (x := x) (g := W.heap.size + 1) (k := k) (W := W) (w1 := w1) rfl HB.out (by omega) K2.out (by omega) (by omega)
    simp only [putAt, Nat.zero_add, Nat.reduceAdd] at hE
    refine at_world (fun w => Below W.heap.size W w ∧ Cells w (W.heap.size + 1) [.int .i64 x.shards, .int .i64 x.ttl, .int .i64 x.session, .slice V x.secs.length vc, .int .i64 0, .slice (some ⟨(w1.heap.size + 1), 0, none⟩) k k, .slice (some ⟨w1.heap.size, 0, none⟩) x.secs.length x.secs.length] ∧ Own seR 75 W.heap.size w (.slice (some ⟨(w1.heap.size + 1), 0, none⟩) k k) (List.replicate k zeroSe) ∧ Own intR 3 W.heap.size w (.slice (some ⟨w1.heap.size, 0, none⟩) x.secs.length x.secs.length) (List.replicate x.secs.length 0)) hE fun w2 ⟨hb2, k4, o1, o2⟩ => ?_
    clear hE
    have g0 := k4.c 0 _ rfl
    have g1 := k4.c 1 _ rfl
    have g2 := k4.c 2 _ rfl
    have g3 := k4.c 3 _ rfl
    have g4 := k4.c 4 _ rfl
    have g5 := k4.c 5 _ rfl
    have g6 := k4.c 6 _ rfl
    refine bodyPost_ret (v := .tuple #[.agg #[.int .i64 x.shards, .int .i64 x.ttl, .int .i64 x.session, .slice V x.secs.length vc, .int .i64 0, .slice (some ⟨(w1.heap.size + 1), 0, none⟩) k k, .slice (some ⟨w1.heap.size, 0, none⟩) x.secs.length x.secs.length], .int .i64 0]) (by simp [results, Tryz.results14, go_sem, g0, g1, g2, g3, g4, g5, g6]) rfl ⟨ownF V vc (w1.heap.size + 1) w1.heap.size ⟨x, 0, List.replicate k zeroSe, List.replicate x.secs.length 0⟩, ?_, hb2, fun _ => ⟨(w1.heap.size + 1), w1.heap.size, ?_⟩, fun h => by rw [hN.out] at h; exact absurd rfl h⟩
    · rw [hN.out]; simp [auV, ownF]
    · rw [hN.out]; simp only [List.length_replicate]; exact ⟨by first | trivial | rfl, by omega, o1, o2⟩

theorem zeroAu_is (w : World) : IsAu w nilF zeroAu := ⟨Sl.none _ _, Sl.none _ _, Sl.none _ _, by simp [Bd, zeroAu], by simp [Bd, zeroAu]⟩

theorem new_now2 {x : Ve} : (newA x).1.now = 0 := by
  unfold newA
  split <;> rfl
theorem new_ve2 {x : Ve} (h : (newA x).2 = 0) : (newA x).1.ve = x := by
  unfold newA at h ⊢
  split at h
  · rename_i h9; exact absurd h h9
  · rename_i h9; rw [if_neg h9]

theorem NewPost2.is {w w' : World} {V : Option Addr} {vc : Nat} {x : Ve} {e : Ending} (hv : Sl secR w (.slice V x.secs.length vc) x.secs) (h1 : Bd x.shards) (h2 : Bd x.ttl) (h3 : Bd x.session) (h : NewPost2 w V vc x e w') : ∃ F, e = .returned (.tuple #[auV F (newA x).1, .int .i64 (newA x).2]) ∧ IsAu w' F (newA x).1 ∧ Below w.heap.size w w' := by
  obtain ⟨F, he, hb, hF, hN⟩ := h
  refine ⟨F, he, ?_, hb⟩
  by_cases h0 : (newA x).2 = 0
  · obtain ⟨a, b, rfl, _, o1, o2⟩ := hF h0
    have hve := new_ve2 h0
    refine ⟨by rw [hve]; exact hv.up hb, o1.sl, o2.sl, by rw [hve]; exact ⟨h1, h2, h3⟩, by rw [new_now2]; simp [Bd]⟩
  · rw [hN h0, show (newA x).1 = zeroAu by unfold newA at h0 ⊢; split <;> simp_all]
    exact zeroAu_is _
end Go.Proofs.YtcomfhigbjkoeaaGreatDoor
