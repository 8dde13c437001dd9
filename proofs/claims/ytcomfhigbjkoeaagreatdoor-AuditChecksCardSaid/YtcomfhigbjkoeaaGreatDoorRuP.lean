/-
  Walk of groundlingref32.state, kind by kind. Conditions: as each theorem says.
  Walks of groundlingref32.state (any kind) and groundlingref32.broken. Conditions: as each theorem says.
  What groundlingref32.after holds while it runs: its copies, and how they are written. Conditions: as each theorem says.
-/
import Derived.Test.YtcomfhigbjkoeaaGreatDoorRuM
import Derived.Test.YtcomfhigbjkoeaaGreatDoorStA
namespace Go.Proofs.YtcomfhigbjkoeaaGreatDoor
open Go.RowKit

theorem seg_hit {α : Type} {p : α → Bool} {l : List α} {k m j : Nat} (hj : j < m) (hk : k + j < l.length) (h : p l[k + j] = true) : ((l.drop k).take m).any p = true := by
  rw [List.any_eq_true]
  refine ⟨l[k + j], ?_, h⟩
  have h1 : j < ((l.drop k).take m).length := by rw [List.length_take, List.length_drop]; omega
  have e : ((l.drop k).take m)[j] = l[k + j] := by simp
  rw [← e]
  exact List.getElem_mem _
theorem seg_miss {α : Type} {p : α → Bool} {l : List α} {k m : Nat} (h : ∀ j, j < m → (hk : k + j < l.length) → p l[k + j] = false) : ((l.drop k).take m).any p = false := by
  rw [List.any_eq_false]
  intro x hx
  obtain ⟨j, hj, rfl⟩ := List.getElem_of_mem hx
  have h1 := hj
  rw [List.length_take, List.length_drop] at h1
  simp only [List.getElem_take, List.getElem_drop]
  rw [h j (by omega) (by omega)]
  simp


set_option maxRecDepth 100000 in
set_option maxHeartbeats 16000000 in
theorem rstateH2_any {W : World} {F : Frm} {s : Au} {op : MOp} {rp : MRp} (R : IsAu W F s) (hk : op.kind = 2) {k m : Nat} (hf : (if op.kind = 3 then rp.seat else op.seat) = (k : Int)) (hm : (if op.kind = 3 then rp.n else 1) = (m : Int)) (hkm : k + m ≤ s.seats.length) (hl : s.seats.length ≤ 4096) : Calls Tryz.prog 39 #[auV F s, stV op rp] W fun e w' => e = .returned (.int .i64 (if ((s.seats.drop k).take m).any (fun x => x.sold || x.held) = true then 8 else 0)) ∧ Below W.heap.size W w' := by
  have CC := Lib.hid (fun w => rchosen_any op rp w)
  rw [hf, hm] at CC
  clear hf hm
  obtain ⟨xv, hxv⟩ : ∃ xv, stV op rp = xv := ⟨_, rfl⟩
  rw [hxv] at CC
  unfold stV at hxv
  have HR := Lib.hid R
  have hcl := R.ss.cap
  have hcv := R.vs.cap
  have hcw := R.ws.cap
  clear R
  unfold auV stV
  obtain ⟨ve, now, seats, waiting⟩ := s
  obtain ⟨V, vc, A, ac, B, bc⟩ := F
  obtain ⟨ki, ow, ti, se, sc, nn, ot, ⟨ts, tow, tse, te⟩, onow⟩ := op
  obtain ⟨er, rs, rn, rd, ⟨us, uo, use_, ue⟩, pl⟩ := rp
  dsimp only at *
  obtain ⟨cs, hcs⟩ : ∃ cs : List Value, cs = [.int .i64 ve.shards, .int .i64 ve.ttl, .int .i64 ve.session, .slice V ve.secs.length vc, .int .i64 now, .slice A seats.length ac, .slice B waiting.length bc] := ⟨_, rfl⟩
  have HCS := Lib.hid hcs
  obtain ⟨xs, hxs⟩ : ∃ xs : List Value, xs = [.int .i64 ki, .int .u32 ow, .int .i64 ti, .int .i64 se, .int .i64 sc, .int .i64 nn, .int .u32 ot, .int .u32 ts, .int .u32 tow, .int .u64 tse, .int .u64 te, .int .i64 onow, .int .i64 er, .int .i64 rs, .int .i64 rn, .int .i64 rd, .int .u32 us, .int .u32 uo, .int .u64 use_, .int .u64 ue, .int .i64 pl] := ⟨_, rfl⟩
  have HXS := Lib.hid hxs
  obtain ⟨oc, hoc⟩ : ∃ oc : List Value, oc = [.int .i64 ki, .int .u32 ow, .int .i64 ti, .int .i64 se, .int .i64 sc, .int .i64 nn, .int .u32 ot, .int .u32 ts, .int .u32 tow, .int .u64 tse, .int .u64 te, .int .i64 onow] := ⟨_, rfl⟩
  have HOC := Lib.hid hoc
  have hxs2 : xv = .agg xs.toArray := by rw [hxs]; exact hxv.symm
  have HS2 := Lib.hid (show (Tryz.prog.info? 47).map (·.size) = some xs.length by rw [hxs]; kernel_rfl)
  clear hxv
  subst hxs2
  obtain ⟨M, hM⟩ : ∃ M : Int, (if ((seats.drop k).take m).any (fun x => x.sold || x.held) = true then 8 else 0) = M := ⟨_, rfl⟩
  rw [hM]
  have HMM := Lib.hid hM
  clear hM
  have hw1 : IntKind.i64.wrap ((k : Int) + (m : Int)) = (k : Int) + (m : Int) := IntWalk.i64_in _ (by omega)
  subst hk
  all_goals
    go_enter Tryz.func39, Tryz.ntmps39
    go_upto_region 5 with fail
    obtain ⟨q, hq⟩ : ∃ q, W.heap.size = q := ⟨_, rfl⟩
    rw [hq]
    refine at_world (fun w => Below W.heap.size W w ∧ Cells w q cs ∧ Cells w (q + 1) xs ∧ Cells w (q + 1 + 1) oc) ⟨bal (bal (ba _ _)), by rw [hcs]; exact ((Cells.newS _ _ _ _ hq.symm).alloc _).alloc _, by rw [hxs]; exact (Cells.newS _ _ _ _ (by simp [hq])).alloc _, by rw [hoc]; exact Cells.newS _ _ _ _ (by simp [hq])⟩ fun w1 ⟨hb1, k1, k2, k3⟩ => ?_
    have D := Lib.hid hb1
    have L := Lib.hid k1
    have LX := Lib.hid k2
    have LO := Lib.hid k3
    clear hb1 k1 k2 k3 hcs hxs hoc hq
    go_wp2_with (refine wpList_load_mid rfl 47 (.tmp 3) rfl (q + 1) 0 rfl xs _ LX.out.range Tryz.underlying47 rfl HS2.out ?_)
    refine (CC.out _).mono ?_
    rintro e w2 ⟨rfl, hb⟩
    have D2 := Lib.hid (D.out.trans (hb.mono D.out.size))
    have L2 := Lib.hid (L.out.later hb)
    have LO2 := Lib.hid (LO.out.later hb)
    clear hb CC D L LX LO
    go_wp2_with fail
    go_loopw [8] (fun iv wr => ∃ j : Nat, j ≤ m ∧ iv = .int .i64 (((k + j : Nat) : Int)) ∧ Hid (Below w2.heap.size w2 wr) ∧ Hid (∀ i, i < j → (hi : k + i < seats.length) → (seats[k + i].sold || seats[k + i].held) = false)) (fun iv _ => k + m - (intOf iv).toNat)
    case atStart => exact ⟨0, by omega, by simp, Lib.hid (Below.refl _ _), Lib.hid (fun i hi => absurd hi (by omega))⟩
    case round =>
      obtain ⟨j, hj, rfl, DD, hno⟩ := hrel
      have D3 := Lib.hid (D2.out.trans (DD.out.mono D2.out.size))
      by_cases hlt : j < m
      case neg => as_aux_lemma =>
        obtain rfl : j = m := by omega
        have hz : decide (((k + j : Nat) : Int) < (k : Int) + (j : Int)) = false := decide_eq_false (by omega)
        obtain rfl : M = 0 := by rw [← HMM.out, if_neg]; rw [seg_miss fun i hi h => hno.out i hi h]; simp
        have o := LO2.out.later DD.out
        rw [HOC.out] at o
        have o0 := o.c 0 _ rfl
        have y0 := o.lt
        clear o HMM
        go_wp2_with fail
        go_ret
        exact ⟨rfl, D3.out⟩
      as_aux_lemma =>
        have hz : decide (((k + j : Nat) : Int) < (k : Int) + (m : Int)) = true := decide_eq_true (by omega)
        have hkl : k + j < seats.length := by omega
        have hi0 : (0 : Int) ≤ ((k + j : Nat) : Int) := by omega
        have hi1 : ((k + j : Nat) : Int) < (seats.length : Int) := by omega
        obtain ⟨b, off, hA, hbl, e0, e1, e2, e3, e4, e5, hz9⟩ := (HR.out.ss.up D3.out).atE hkl
        clear hz9
        dsimp only at hA
        subst hA
        have HIT := Lib.hid (fun h => seg_hit (p := fun x : Se => x.sold || x.held) (l := seats) (m := m) hlt hkl h)
        have HNO := Lib.hid (fun (h : (seats[k + j].sold || seats[k + j].held) = false) (i : Nat) (hi : i < j + 1) (hk : k + i < seats.length) => show (seats[k + i].sold || seats[k + i].held) = false by
          rcases Nat.lt_succ_iff_lt_or_eq.1 hi with h9 | h9
          · exact hno.out i h9 hk
          · subst h9; exact h)
        try dsimp only at HIT
        generalize seats[k + j] = x at e0 e1 HIT HNO
        obtain ⟨so, hh, xo, xt, xs, xe⟩ := x
        dsimp only at e0 e1 HIT HNO
        have ks := L2.out.later DD.out
        rw [HCS.out] at ks
        have c5 := ks.c 5 _ rfl
        have y0 := ks.lt
        obtain ⟨i, hi⟩ : ∃ i, i = k + j := ⟨_, rfl⟩
        rw [← hi] at hz hi0 hi1 e0 e1 ⊢
        have HI := Lib.hid hi
        clear ks e2 e3 e4 e5 hno hkl hi
        cases so with
        | true =>
          obtain rfl : M = 8 := by rw [← HMM.out, if_pos (HIT.out rfl)]
          clear HMM HIT HNO
          go_wp2_with fail
          go_ret
          exact ⟨rfl, D3.out⟩
        | false =>
          cases hh with
          | true =>
            obtain rfl : M = 8 := by rw [← HMM.out, if_pos (HIT.out rfl)]
            clear HMM HIT HNO
            go_wp2_with fail
            go_ret
            exact ⟨rfl, D3.out⟩
          | false =>
            go_wp2_with fail
            go_roundw
            case rel => exact ⟨j + 1, by omega, by have := HI.out; go_num, DD, Lib.hid (HNO.out rfl)⟩
            case measure => have := HI.out; simp [intOf]; omega

set_option maxRecDepth 100000 in
set_option maxHeartbeats 16000000 in
theorem rstateH3_any {W : World} {F : Frm} {s : Au} {op : MOp} {rp : MRp} (R : IsAu W F s) (hk : op.kind = 3) {k m : Nat} (hf : (if op.kind = 3 then rp.seat else op.seat) = (k : Int)) (hm : (if op.kind = 3 then rp.n else 1) = (m : Int)) (hkm : k + m ≤ s.seats.length) (hl : s.seats.length ≤ 4096) : Calls Tryz.prog 39 #[auV F s, stV op rp] W fun e w' => e = .returned (.int .i64 (if ((s.seats.drop k).take m).any (fun x => x.sold || x.held) = true then 8 else 0)) ∧ Below W.heap.size W w' := by
  have CC := Lib.hid (fun w => rchosen_any op rp w)
  rw [hf, hm] at CC
  clear hf hm
  obtain ⟨xv, hxv⟩ : ∃ xv, stV op rp = xv := ⟨_, rfl⟩
  rw [hxv] at CC
  unfold stV at hxv
  have HR := Lib.hid R
  have hcl := R.ss.cap
  have hcv := R.vs.cap
  have hcw := R.ws.cap
  clear R
  unfold auV stV
  obtain ⟨ve, now, seats, waiting⟩ := s
  obtain ⟨V, vc, A, ac, B, bc⟩ := F
  obtain ⟨ki, ow, ti, se, sc, nn, ot, ⟨ts, tow, tse, te⟩, onow⟩ := op
  obtain ⟨er, rs, rn, rd, ⟨us, uo, use_, ue⟩, pl⟩ := rp
  dsimp only at *
  obtain ⟨cs, hcs⟩ : ∃ cs : List Value, cs = [.int .i64 ve.shards, .int .i64 ve.ttl, .int .i64 ve.session, .slice V ve.secs.length vc, .int .i64 now, .slice A seats.length ac, .slice B waiting.length bc] := ⟨_, rfl⟩
  have HCS := Lib.hid hcs
  obtain ⟨xs, hxs⟩ : ∃ xs : List Value, xs = [.int .i64 ki, .int .u32 ow, .int .i64 ti, .int .i64 se, .int .i64 sc, .int .i64 nn, .int .u32 ot, .int .u32 ts, .int .u32 tow, .int .u64 tse, .int .u64 te, .int .i64 onow, .int .i64 er, .int .i64 rs, .int .i64 rn, .int .i64 rd, .int .u32 us, .int .u32 uo, .int .u64 use_, .int .u64 ue, .int .i64 pl] := ⟨_, rfl⟩
  have HXS := Lib.hid hxs
  obtain ⟨oc, hoc⟩ : ∃ oc : List Value, oc = [.int .i64 ki, .int .u32 ow, .int .i64 ti, .int .i64 se, .int .i64 sc, .int .i64 nn, .int .u32 ot, .int .u32 ts, .int .u32 tow, .int .u64 tse, .int .u64 te, .int .i64 onow] := ⟨_, rfl⟩
  have HOC := Lib.hid hoc
  have hxs2 : xv = .agg xs.toArray := by rw [hxs]; exact hxv.symm
  have HS2 := Lib.hid (show (Tryz.prog.info? 47).map (·.size) = some xs.length by rw [hxs]; kernel_rfl)
  clear hxv
  subst hxs2
  obtain ⟨M, hM⟩ : ∃ M : Int, (if ((seats.drop k).take m).any (fun x => x.sold || x.held) = true then 8 else 0) = M := ⟨_, rfl⟩
  rw [hM]
  have HMM := Lib.hid hM
  clear hM
  have hw1 : IntKind.i64.wrap ((k : Int) + (m : Int)) = (k : Int) + (m : Int) := IntWalk.i64_in _ (by omega)
  subst hk
  all_goals
    go_enter Tryz.func39, Tryz.ntmps39
    go_upto_region 5 with fail
    obtain ⟨q, hq⟩ : ∃ q, W.heap.size = q := ⟨_, rfl⟩
    rw [hq]
    refine at_world (fun w => Below W.heap.size W w ∧ Cells w q cs ∧ Cells w (q + 1) xs ∧ Cells w (q + 1 + 1) oc) ⟨bal (bal (ba _ _)), by rw [hcs]; exact ((Cells.newS _ _ _ _ hq.symm).alloc _).alloc _, by rw [hxs]; exact (Cells.newS _ _ _ _ (by simp [hq])).alloc _, by rw [hoc]; exact Cells.newS _ _ _ _ (by simp [hq])⟩ fun w1 ⟨hb1, k1, k2, k3⟩ => ?_
    have D := Lib.hid hb1
    have L := Lib.hid k1
    have LX := Lib.hid k2
    have LO := Lib.hid k3
    clear hb1 k1 k2 k3 hcs hxs hoc hq
    go_wp2_with (refine wpList_load_mid rfl 47 (.tmp 3) rfl (q + 1) 0 rfl xs _ LX.out.range Tryz.underlying47 rfl HS2.out ?_)
    refine (CC.out _).mono ?_
    rintro e w2 ⟨rfl, hb⟩
    have D2 := Lib.hid (D.out.trans (hb.mono D.out.size))
    have L2 := Lib.hid (L.out.later hb)
    have LO2 := Lib.hid (LO.out.later hb)
    clear hb CC D L LX LO
    go_wp2_with fail
    go_loopw [8] (fun iv wr => ∃ j : Nat, j ≤ m ∧ iv = .int .i64 (((k + j : Nat) : Int)) ∧ Hid (Below w2.heap.size w2 wr) ∧ Hid (∀ i, i < j → (hi : k + i < seats.length) → (seats[k + i].sold || seats[k + i].held) = false)) (fun iv _ => k + m - (intOf iv).toNat)
    case atStart => exact ⟨0, by omega, by simp, Lib.hid (Below.refl _ _), Lib.hid (fun i hi => absurd hi (by omega))⟩
    case round =>
      obtain ⟨j, hj, rfl, DD, hno⟩ := hrel
      have D3 := Lib.hid (D2.out.trans (DD.out.mono D2.out.size))
      by_cases hlt : j < m
      case neg => as_aux_lemma =>
        obtain rfl : j = m := by omega
        have hz : decide (((k + j : Nat) : Int) < (k : Int) + (j : Int)) = false := decide_eq_false (by omega)
        obtain rfl : M = 0 := by rw [← HMM.out, if_neg]; rw [seg_miss fun i hi h => hno.out i hi h]; simp
        have o := LO2.out.later DD.out
        rw [HOC.out] at o
        have o0 := o.c 0 _ rfl
        have y0 := o.lt
        clear o HMM
        go_wp2_with fail
        go_ret
        exact ⟨rfl, D3.out⟩
      as_aux_lemma =>
        have hz : decide (((k + j : Nat) : Int) < (k : Int) + (m : Int)) = true := decide_eq_true (by omega)
        have hkl : k + j < seats.length := by omega
        have hi0 : (0 : Int) ≤ ((k + j : Nat) : Int) := by omega
        have hi1 : ((k + j : Nat) : Int) < (seats.length : Int) := by omega
        obtain ⟨b, off, hA, hbl, e0, e1, e2, e3, e4, e5, hz9⟩ := (HR.out.ss.up D3.out).atE hkl
        clear hz9
        dsimp only at hA
        subst hA
        have HIT := Lib.hid (fun h => seg_hit (p := fun x : Se => x.sold || x.held) (l := seats) (m := m) hlt hkl h)
        have HNO := Lib.hid (fun (h : (seats[k + j].sold || seats[k + j].held) = false) (i : Nat) (hi : i < j + 1) (hk : k + i < seats.length) => show (seats[k + i].sold || seats[k + i].held) = false by
          rcases Nat.lt_succ_iff_lt_or_eq.1 hi with h9 | h9
          · exact hno.out i h9 hk
          · subst h9; exact h)
        try dsimp only at HIT
        generalize seats[k + j] = x at e0 e1 HIT HNO
        obtain ⟨so, hh, xo, xt, xs, xe⟩ := x
        dsimp only at e0 e1 HIT HNO
        have ks := L2.out.later DD.out
        rw [HCS.out] at ks
        have c5 := ks.c 5 _ rfl
        have y0 := ks.lt
        obtain ⟨i, hi⟩ : ∃ i, i = k + j := ⟨_, rfl⟩
        rw [← hi] at hz hi0 hi1 e0 e1 ⊢
        have HI := Lib.hid hi
        clear ks e2 e3 e4 e5 hno hkl hi
        cases so with
        | true =>
          obtain rfl : M = 8 := by rw [← HMM.out, if_pos (HIT.out rfl)]
          clear HMM HIT HNO
          go_wp2_with fail
          go_ret
          exact ⟨rfl, D3.out⟩
        | false =>
          cases hh with
          | true =>
            obtain rfl : M = 8 := by rw [← HMM.out, if_pos (HIT.out rfl)]
            clear HMM HIT HNO
            go_wp2_with fail
            go_ret
            exact ⟨rfl, D3.out⟩
          | false =>
            go_wp2_with fail
            go_roundw
            case rel => exact ⟨j + 1, by omega, by have := HI.out; go_num, DD, Lib.hid (HNO.out rfl)⟩
            case measure => have := HI.out; simp [intOf]; omega

set_option maxRecDepth 100000 in
set_option maxHeartbeats 16000000 in
theorem rstateZ_any {W : World} {F : Frm} {s : Au} {op : MOp} {rp : MRp} (R : IsAu W F s) (hk : op.kind = 1 ∨ op.kind = 12) : Calls Tryz.prog 39 #[auV F s, stV op rp] W fun e w' => e = .returned (.int .i64 (0)) ∧ Below W.heap.size W w' := by

  have HR := Lib.hid R
  have hcl := R.ss.cap
  have hcv := R.vs.cap
  have hcw := R.ws.cap
  clear R
  unfold auV stV
  obtain ⟨ve, now, seats, waiting⟩ := s
  obtain ⟨V, vc, A, ac, B, bc⟩ := F
  obtain ⟨ki, ow, ti, se, sc, nn, ot, ⟨ts, tow, tse, te⟩, onow⟩ := op
  obtain ⟨er, rs, rn, rd, ⟨us, uo, use_, ue⟩, pl⟩ := rp
  dsimp only at *
  rcases hk with rfl | rfl
  all_goals
    go_enter Tryz.func39, Tryz.ntmps39
    go_wp2_with fail
    go_ret
    exact ⟨rfl, bal (bal (ba _ _))⟩

set_option maxRecDepth 100000 in
set_option maxHeartbeats 16000000 in
theorem rstate4_any {W : World} {F : Frm} {s : Au} {op : MOp} {rp : MRp} (R : IsAu W F s) (hk : op.kind = 4) {k : Nat} (hs : op.seat = (k : Int)) (hlt : k < s.seats.length) : Calls Tryz.prog 39 #[auV F s, stV op rp] W fun e w' => e = .returned (.int .i64 (if holderA s.seats op = true then 9 else 0)) ∧ Below W.heap.size W w' := by
  have hT := Lib.hid (show holderA s.seats op = (s.seats[k].sold || (s.seats[k].held && s.seats[k].owner != op.owner)) by simp [holderA, isB, hk, hs, List.getElem?_eq_getElem hlt])
  generalize holderA s.seats op = H at hT ⊢
  obtain ⟨b, off, hA, hbl, e0, e1, e2, e3, e4, e5, hx0, hx9, hx1, hx2⟩ := R.ss.atE hlt
  clear hx9
  have hk0 : (0 : Int) ≤ (k : Int) := by omega
  have hk1 : (k : Int) < (s.seats.length : Int) := by omega
  have E4 := Lib.hid e4
  generalize s.seats[k] = x at e0 e1 e2 e3 e4 e5 hx0 hx1 hx2 E4 hT
  clear hlt
  have HR := Lib.hid R
  have hcl := R.ss.cap
  have hcv := R.vs.cap
  have hcw := R.ws.cap
  clear R
  unfold auV stV
  obtain ⟨ve, now, seats, waiting⟩ := s
  obtain ⟨V, vc, A, ac, B, bc⟩ := F
  obtain ⟨ki, ow, ti, se, sc, nn, ot, ⟨ts, tow, tse, te⟩, onow⟩ := op
  obtain ⟨er, rs, rn, rd, ⟨us, uo, use_, ue⟩, pl⟩ := rp
  dsimp only at *
  subst hk hs
  subst hA
  have hl1 : b < W.heap.size + 1 := by omega
  have hl2 : b < W.heap.size + 1 + 1 := by omega
  obtain ⟨so, hh, xo, xt, xs, xe⟩ := x
  dsimp only at e0 e1 e2 e3 e4 e5 hT
  clear hx0 hx1 hx2 E4
  cases so with
  | true =>
    obtain rfl : H = true := by rw [hT.out]; rfl
    go_enter Tryz.func39, Tryz.ntmps39
    go_wp2_with fail
    go_ret
    exact ⟨rfl, bal (bal (bal (ba _ _)))⟩
  | false =>
    cases hh with
    | false =>
      obtain rfl : H = false := by rw [hT.out]; rfl
      go_enter Tryz.func39, Tryz.ntmps39
      go_wp2_with fail
      go_ret
      exact ⟨rfl, bal (bal (bal (ba _ _)))⟩
    | true =>
      cases h1 : (xo != ow) with
      | true =>
        obtain rfl : H = true := by rw [hT.out, h1]; rfl
        go_enter Tryz.func39, Tryz.ntmps39
        go_wp2_with fail
        go_ret
        exact ⟨rfl, bal (bal (bal (ba _ _)))⟩
      | false =>
        obtain rfl : H = false := by rw [hT.out, h1]; rfl
        go_enter Tryz.func39, Tryz.ntmps39
        go_wp2_with fail
        go_ret
        exact ⟨rfl, bal (bal (bal (ba _ _)))⟩

set_option maxRecDepth 100000 in
set_option maxHeartbeats 16000000 in
theorem rstate5h_any {W : World} {F : Frm} {s : Au} {op : MOp} {rp : MRp} (R : IsAu W F s) (hk : op.kind = 5) {k : Nat} (hs : op.seat = (k : Int)) (hlt : k < s.seats.length) (hh : holderA s.seats op = true) : Calls Tryz.prog 39 #[auV F s, stV op rp] W fun e w' => e = .returned (.int .i64 (9)) ∧ Below W.heap.size W w' := by
  have hT := Lib.hid (show holderA s.seats op = (s.seats[k].sold || (s.seats[k].held && s.seats[k].owner != op.owner)) by simp [holderA, isB, hk, hs, List.getElem?_eq_getElem hlt])
  rw [hh] at hT
  clear hh
  obtain ⟨b, off, hA, hbl, e0, e1, e2, e3, e4, e5, hx0, hx9, hx1, hx2⟩ := R.ss.atE hlt
  clear hx9
  have hk0 : (0 : Int) ≤ (k : Int) := by omega
  have hk1 : (k : Int) < (s.seats.length : Int) := by omega
  have E4 := Lib.hid e4
  generalize s.seats[k] = x at e0 e1 e2 e3 e4 e5 hx0 hx1 hx2 E4 hT
  clear hlt
  have HR := Lib.hid R
  have hcl := R.ss.cap
  have hcv := R.vs.cap
  have hcw := R.ws.cap
  clear R
  unfold auV stV
  obtain ⟨ve, now, seats, waiting⟩ := s
  obtain ⟨V, vc, A, ac, B, bc⟩ := F
  obtain ⟨ki, ow, ti, se, sc, nn, ot, ⟨ts, tow, tse, te⟩, onow⟩ := op
  obtain ⟨er, rs, rn, rd, ⟨us, uo, use_, ue⟩, pl⟩ := rp
  dsimp only at *
  subst hk hs
  subst hA
  have hl1 : b < W.heap.size + 1 := by omega
  have hl2 : b < W.heap.size + 1 + 1 := by omega
  obtain ⟨so, hh, xo, xt, xs, xe⟩ := x
  dsimp only at e0 e1 e2 e3 e4 e5 hT
  clear hx0 hx1 hx2 E4
  cases so with
  | true =>
    go_enter Tryz.func39, Tryz.ntmps39
    go_wp2_with fail
    go_ret
    exact ⟨rfl, bal (bal (bal (ba _ _)))⟩
  | false =>
    cases hh with
    | false => exact absurd hT.out (by simp)
    | true =>
      have h1 : (xo != ow) = true := by have := hT.out; simpa using this
      go_enter Tryz.func39, Tryz.ntmps39
      go_wp2_with fail
      go_ret
      exact ⟨rfl, bal (bal (bal (ba _ _)))⟩

set_option maxRecDepth 100000 in
set_option maxHeartbeats 16000000 in
theorem rstate5_any {W : World} {F : Frm} {s : Au} {op : MOp} {rp : MRp} (R : IsAu W F s) (hk : op.kind = 5) {k : Nat} (hs : op.seat = (k : Int)) (hlt : k < s.seats.length) (hl : s.seats.length ≤ 4096) (hu : U32 op.tk.seat) (hh : holderA s.seats op = false) : Calls Tryz.prog 39 #[auV F s, stV op rp] W fun e w' => e = .returned (.int .i64 (if wrongA s.seats op rp = true then 12 else 0)) ∧ Below W.heap.size W w' := by
  have hH := Lib.hid (show holderA s.seats op = (s.seats[k].sold || (s.seats[k].held && s.seats[k].owner != op.owner)) by simp [holderA, isB, hk, hs, List.getElem?_eq_getElem hlt])
  rw [hh] at hH
  have hsA : seatA op = (k : Int) := by simp [seatA, hk, hs]
  have hT := Lib.hid (show wrongA s.seats op rp = (s.seats[k].serial == 18446744073709551615 || !(rp.tk == ⟨k, op.owner, s.seats[k].serial + 1, s.seats[k].epoch⟩)) by simp [wrongA, isB, hk, hsA, List.getElem?_eq_getElem hlt])
  generalize wrongA s.seats op rp = M at hT ⊢
  have CS := Lib.hid (fun w => rspoken_any op w hu)
  rw [hsA] at CS
  unfold opV at CS
  clear hh hu hsA
  obtain ⟨b, off, hA, hbl, e0, e1, e2, e3, e4, e5, hx0, hx9, hx1, hx2⟩ := R.ss.atE hlt
  clear hx9
  have hk0 : (0 : Int) ≤ (k : Int) := by omega
  have hk1 : (k : Int) < (s.seats.length : Int) := by omega
  have E4 := Lib.hid e4
  generalize s.seats[k] = x at e0 e1 e2 e3 e4 e5 hx0 hx1 hx2 E4 hT hH
  clear hlt
  have HR := Lib.hid R
  have hcl := R.ss.cap
  have hcv := R.vs.cap
  have hcw := R.ws.cap
  clear R
  unfold auV stV
  obtain ⟨ve, now, seats, waiting⟩ := s
  obtain ⟨V, vc, A, ac, B, bc⟩ := F
  obtain ⟨ki, ow, ti, se, sc, nn, ot, ⟨ts, tow, tse, te⟩, onow⟩ := op
  obtain ⟨er, rs, rn, rd, ⟨us, uo, use_, ue⟩, pl⟩ := rp
  dsimp only at *
  obtain ⟨cs, hcs⟩ : ∃ cs : List Value, cs = [.int .i64 ve.shards, .int .i64 ve.ttl, .int .i64 ve.session, .slice V ve.secs.length vc, .int .i64 now, .slice A seats.length ac, .slice B waiting.length bc] := ⟨_, rfl⟩
  have HCS := Lib.hid hcs
  obtain ⟨xs, hxs⟩ : ∃ xs : List Value, xs = [.int .i64 ki, .int .u32 ow, .int .i64 ti, .int .i64 se, .int .i64 sc, .int .i64 nn, .int .u32 ot, .int .u32 ts, .int .u32 tow, .int .u64 tse, .int .u64 te, .int .i64 onow, .int .i64 er, .int .i64 rs, .int .i64 rn, .int .i64 rd, .int .u32 us, .int .u32 uo, .int .u64 use_, .int .u64 ue, .int .i64 pl] := ⟨_, rfl⟩
  have HXS := Lib.hid hxs
  obtain ⟨oc, hoc⟩ : ∃ oc : List Value, oc = [.int .i64 ki, .int .u32 ow, .int .i64 ti, .int .i64 se, .int .i64 sc, .int .i64 nn, .int .u32 ot, .int .u32 ts, .int .u32 tow, .int .u64 tse, .int .u64 te, .int .i64 onow] := ⟨_, rfl⟩
  have HOC := Lib.hid hoc
  subst hk hs
  subst hA
  have hl1 : b < W.heap.size + 1 := by omega
  have hl2 : b < W.heap.size + 1 + 1 := by omega
  obtain ⟨so, hh, xo, xt, xs_, xe⟩ := x
  dsimp only at e0 e1 e2 e3 e4 e5 hT hH hx0 hx1 hx2 E4
  cases so with
  | true => exact absurd hH.out (by simp)
  | false =>
  have hcase : hh = false ∨ (hh = true ∧ (xo != ow) = false) := by
    cases hh with
    | false => exact .inl rfl
    | true => exact .inr ⟨rfl, by have := hH.out; simpa using this⟩
  clear hH
  rcases hcase with rfl | ⟨rfl, h1⟩
  all_goals
    go_enter Tryz.func39, Tryz.ntmps39
    go_wp2_with fail
    obtain ⟨q, hq⟩ : ∃ q, W.heap.size = q := ⟨_, rfl⟩
    rw [hq]
    refine at_call (fun w => Below W.heap.size W w ∧ Cells w q cs ∧ Cells w (q + 1) xs ∧ Cells w (q + 1 + 1) oc) ⟨bal (bal (bal (ba _ _))), by rw [hcs]; exact (((Cells.newS _ _ _ _ hq.symm).alloc _).alloc _).alloc _, by rw [hxs]; exact ((Cells.newS _ _ _ _ (by simp [hq])).alloc _).alloc _, by rw [hoc]; exact (Cells.newS _ _ _ _ (by simp [hq])).alloc _⟩ fun w1 ⟨hb1, k1, k2, k3⟩ => ?_
    have D := Lib.hid hb1
    have L := Lib.hid k1
    have LX := Lib.hid k2
    have LO := Lib.hid k3
    clear hb1 k1 k2 k3 hcs hxs hoc hq
    refine (CS.out _).mono ?_
    rintro e w2 ⟨rfl, hb⟩
    have DW := Lib.hid (D.out.trans (hb.mono D.out.size))
    have L2 := Lib.hid (L.out.later hb)
    have LX2 := Lib.hid (LX.out.later hb)
    have LO2 := Lib.hid (LO.out.later hb)
    clear hb CS D L LX LO
    have ks := L2.out
    rw [HCS.out] at ks
    have c5 := ks.c 5 _ rfl
    have y0 := ks.lt
    have kx := LX2.out
    rw [HXS.out] at kx
    have x16 := kx.c 16 _ rfl
    have x17 := kx.c 17 _ rfl
    have x18 := kx.c 18 _ rfl
    have x19 := kx.c 19 _ rfl
    have y1 := kx.lt
    have ko := LO2.out
    rw [HOC.out] at ko
    have o0 := ko.c 0 _ rfl
    have o1 := ko.c 1 _ rfl
    have o6 := ko.c 6 _ rfl
    have y2 := ko.lt
    clear ks kx ko
    have f4 := cell_later DW.out e4
    have f5 := cell_later DW.out e5
    have y3 : b < w2.heap.size := by have := DW.out.size; omega
    have hwu : IntKind.u32.wrap (k : Int) = (k : Int) := IntWalk.u32_in _ (by omega)
    obtain ⟨se1, hse1⟩ : ∃ v, IntKind.u64.wrap (xs_ + 1) = v := ⟨_, rfl⟩
    have HS1 := Lib.hid (show xs_ ≠ 18446744073709551615 → se1 = xs_ + 1 from fun h => by rw [← hse1]; exact IntWalk.u64_in _ (by unfold U64 at hx1; omega))
    clear e0 e1 e2 e3 e4 e5 hx0 hx1 hx2 hbl
    go_wp2_with fail
    go_big_region
    all_goals
      clear x16 x17 x18 x19 o0 o1 o6 f4 f5 c5
      refine at_world (fun w => Below w2.heap.size w2 w ∧ Cells w w2.heap.size [.int .u32 (k : Int), .int .u32 ow, .int .u64 se1, .int .u64 xe]) ⟨bdd (ba _ _), (Cells.newS _ _ _ _ rfl).drew⟩ fun w3 ⟨hb3, k3⟩ => ?_
      have D3 := Lib.hid (DW.out.trans (hb3.mono DW.out.size))
      have ks := L2.out.later hb3
      rw [HCS.out] at ks
      have c5 := ks.c 5 _ rfl
      have kx := LX2.out.later hb3
      rw [HXS.out] at kx
      have x16 := kx.c 16 _ rfl
      have x17 := kx.c 17 _ rfl
      have x18 := kx.c 18 _ rfl
      have x19 := kx.c 19 _ rfl
      have ko := LO2.out.later hb3
      rw [HOC.out] at ko
      have o0 := ko.c 0 _ rfl
      have o1 := ko.c 1 _ rfl
      have o6 := ko.c 6 _ rfl
      have n0 := k3.c 0 _ rfl
      have n1 := k3.c 1 _ rfl
      have n2 := k3.c 2 _ rfl
      have n3 := k3.c 3 _ rfl
      have m1 := k3.f 1
      have f4 := cell_later D3.out E4.out
      have s0 := k3.lt
      have s1 := hb3.size
      have s2 : q < w3.heap.size := by omega
      have s3 : q + 1 < w3.heap.size := by omega
      have s4 : q + 1 + 1 < w3.heap.size := by omega
      have s5 : b < w3.heap.size := by omega
      have hWw := DW.out.size
      clear ks kx ko hb3 k3 y0 y1 y2 y3 s1 hse1 hwu
      cases tm : (xs_ == 18446744073709551615)
      case true => as_aux_lemma =>
        by_cases q1 : us = (k : Int)
        · subst q1
          by_cases q2 : uo = ow
          · subst q2
            by_cases q3 : use_ = se1
            · subst q3
              by_cases q4 : ue = xe
              · subst q4
                obtain rfl : M = true := by rw [hT.out]; simp_all
                go_wp2_with fail
                go_ret
                exact ⟨rfl, D3.out⟩
              · have t : (ue == xe) = false := by simpa using q4
                obtain rfl : M = true := by rw [hT.out]; simp_all
                clear q4
                go_wp2_with fail
                go_ret
                exact ⟨rfl, D3.out⟩
            · have t : (use_ == se1) = false := by simpa using q3
              obtain rfl : M = true := by rw [hT.out]; simp_all
              clear q3
              go_wp2_with fail
              go_ret
              exact ⟨rfl, D3.out⟩
          · have t : (uo == ow) = false := by simpa using q2
            obtain rfl : M = true := by rw [hT.out]; simp_all
            clear q2
            go_wp2_with fail
            go_ret
            exact ⟨rfl, D3.out⟩
        · have t : (us == (k : Int)) = false := by simpa using q1
          obtain rfl : M = true := by rw [hT.out]; simp_all
          clear q1
          go_wp2_with fail
          go_ret
          exact ⟨rfl, D3.out⟩
      case false => as_aux_lemma =>
        have hne : xs_ ≠ 18446744073709551615 := by simpa using tm
        obtain rfl := HS1.out hne
        by_cases q1 : us = (k : Int)
        · subst q1
          by_cases q2 : uo = ow
          · subst q2
            by_cases q3 : use_ = xs_ + 1
            · subst q3
              by_cases q4 : ue = xe
              · subst q4
                obtain rfl : M = false := by rw [hT.out]; simp_all
                go_wp2_with fail
                go_ret
                exact ⟨rfl, D3.out⟩
              · have t : (ue == xe) = false := by simpa using q4
                obtain rfl : M = true := by rw [hT.out]; simp_all
                clear q4
                go_wp2_with fail
                go_ret
                exact ⟨rfl, D3.out⟩
            · have t : (use_ == xs_ + 1) = false := by simpa using q3
              obtain rfl : M = true := by rw [hT.out]; simp_all
              clear q3
              go_wp2_with fail
              go_ret
              exact ⟨rfl, D3.out⟩
          · have t : (uo == ow) = false := by simpa using q2
            obtain rfl : M = true := by rw [hT.out]; simp_all
            clear q2
            go_wp2_with fail
            go_ret
            exact ⟨rfl, D3.out⟩
        · have t : (us == (k : Int)) = false := by simpa using q1
          obtain rfl : M = true := by rw [hT.out]; simp_all
          clear q1
          go_wp2_with fail
          go_ret
          exact ⟨rfl, D3.out⟩


set_option maxRecDepth 100000 in
set_option maxHeartbeats 16000000 in
theorem rstateV_any {W : World} {F : Frm} {s : Au} {op : MOp} {rp : MRp} (R : IsAu W F s) (hk : op.kind = 6 ∨ op.kind = 7 ∨ op.kind = 9) (hu : U32 op.tk.seat) (hv : validA s.seats op.tk = false) : Calls Tryz.prog 39 #[auV F s, stV op rp] W fun e w' => e = .returned (.int .i64 (10)) ∧ Below W.heap.size W w' := by
  have CV := Lib.hid (fun w (hb : Below W.heap.size W w) => rvalid_any (R.up hb) op.tk hu)
  rw [hv] at CV
  unfold auV tkV at CV
  clear hu hv
  have HR := Lib.hid R
  have hcl := R.ss.cap
  have hcv := R.vs.cap
  have hcw := R.ws.cap
  clear R
  unfold auV stV
  obtain ⟨ve, now, seats, waiting⟩ := s
  obtain ⟨V, vc, A, ac, B, bc⟩ := F
  obtain ⟨ki, ow, ti, se, sc, nn, ot, ⟨ts, tow, tse, te⟩, onow⟩ := op
  obtain ⟨er, rs, rn, rd, ⟨us, uo, use_, ue⟩, pl⟩ := rp
  dsimp only at *
  obtain ⟨cs, hcs⟩ : ∃ cs : List Value, cs = [.int .i64 ve.shards, .int .i64 ve.ttl, .int .i64 ve.session, .slice V ve.secs.length vc, .int .i64 now, .slice A seats.length ac, .slice B waiting.length bc] := ⟨_, rfl⟩
  have HCS := Lib.hid hcs
  obtain ⟨xs, hxs⟩ : ∃ xs : List Value, xs = [.int .i64 ki, .int .u32 ow, .int .i64 ti, .int .i64 se, .int .i64 sc, .int .i64 nn, .int .u32 ot, .int .u32 ts, .int .u32 tow, .int .u64 tse, .int .u64 te, .int .i64 onow, .int .i64 er, .int .i64 rs, .int .i64 rn, .int .i64 rd, .int .u32 us, .int .u32 uo, .int .u64 use_, .int .u64 ue, .int .i64 pl] := ⟨_, rfl⟩
  have HXS := Lib.hid hxs
  obtain ⟨oc, hoc⟩ : ∃ oc : List Value, oc = [.int .i64 ki, .int .u32 ow, .int .i64 ti, .int .i64 se, .int .i64 sc, .int .i64 nn, .int .u32 ot, .int .u32 ts, .int .u32 tow, .int .u64 tse, .int .u64 te, .int .i64 onow] := ⟨_, rfl⟩
  have HOC := Lib.hid hoc
  rcases hk with rfl | rfl | rfl
  all_goals
    go_enter Tryz.func39, Tryz.ntmps39
    go_wp2_with fail
    refine (CV.out _ (bal (bal (ba _ _)))).mono ?_
    rintro e w2 ⟨rfl, hb⟩
    have D2 := Lib.hid ((bal (bal (ba W _))).trans (hb.mono (bal (bal (ba W _))).size))
    clear hb CV
    go_wp2_with fail
    go_ret
    exact ⟨rfl, D2.out⟩

set_option maxRecDepth 100000 in
set_option maxHeartbeats 16000000 in
theorem rstate79_any {W : World} {F : Frm} {s : Au} {op : MOp} {rp : MRp} (R : IsAu W F s) (hk : op.kind = 7 ∨ op.kind = 9) (hu : U32 op.tk.seat) (hv : validA s.seats op.tk = true) : Calls Tryz.prog 39 #[auV F s, stV op rp] W fun e w' => e = .returned (.int .i64 (0)) ∧ Below W.heap.size W w' := by
  have CV := Lib.hid (fun w (hb : Below W.heap.size W w) => rvalid_any (R.up hb) op.tk hu)
  rw [hv] at CV
  unfold auV tkV at CV
  clear hu hv
  have HR := Lib.hid R
  have hcl := R.ss.cap
  have hcv := R.vs.cap
  have hcw := R.ws.cap
  clear R
  unfold auV stV
  obtain ⟨ve, now, seats, waiting⟩ := s
  obtain ⟨V, vc, A, ac, B, bc⟩ := F
  obtain ⟨ki, ow, ti, se, sc, nn, ot, ⟨ts, tow, tse, te⟩, onow⟩ := op
  obtain ⟨er, rs, rn, rd, ⟨us, uo, use_, ue⟩, pl⟩ := rp
  dsimp only at *
  obtain ⟨cs, hcs⟩ : ∃ cs : List Value, cs = [.int .i64 ve.shards, .int .i64 ve.ttl, .int .i64 ve.session, .slice V ve.secs.length vc, .int .i64 now, .slice A seats.length ac, .slice B waiting.length bc] := ⟨_, rfl⟩
  have HCS := Lib.hid hcs
  obtain ⟨xs, hxs⟩ : ∃ xs : List Value, xs = [.int .i64 ki, .int .u32 ow, .int .i64 ti, .int .i64 se, .int .i64 sc, .int .i64 nn, .int .u32 ot, .int .u32 ts, .int .u32 tow, .int .u64 tse, .int .u64 te, .int .i64 onow, .int .i64 er, .int .i64 rs, .int .i64 rn, .int .i64 rd, .int .u32 us, .int .u32 uo, .int .u64 use_, .int .u64 ue, .int .i64 pl] := ⟨_, rfl⟩
  have HXS := Lib.hid hxs
  obtain ⟨oc, hoc⟩ : ∃ oc : List Value, oc = [.int .i64 ki, .int .u32 ow, .int .i64 ti, .int .i64 se, .int .i64 sc, .int .i64 nn, .int .u32 ot, .int .u32 ts, .int .u32 tow, .int .u64 tse, .int .u64 te, .int .i64 onow] := ⟨_, rfl⟩
  have HOC := Lib.hid hoc
  rcases hk with rfl | rfl
  all_goals
    go_enter Tryz.func39, Tryz.ntmps39
    go_wp2_with fail
    obtain ⟨q, hq⟩ : ∃ q, W.heap.size = q := ⟨_, rfl⟩
    rw [hq]
    refine at_call (fun w => Below W.heap.size W w ∧ Cells w q cs ∧ Cells w (q + 1) xs ∧ Cells w (q + 1 + 1) oc) ⟨bal (bal (ba _ _)), by rw [hcs]; exact ((Cells.newS _ _ _ _ hq.symm).alloc _).alloc _, by rw [hxs]; exact (Cells.newS _ _ _ _ (by simp [hq])).alloc _, by rw [hoc]; exact Cells.newS _ _ _ _ (by simp [hq])⟩ fun w1 ⟨hb1, k1, k2, k3⟩ => ?_
    have D := Lib.hid hb1
    have L := Lib.hid k1
    have LX := Lib.hid k2
    have LO := Lib.hid k3
    clear hb1 k1 k2 k3 hcs hxs hoc hq
    refine (CV.out _ D.out).mono ?_
    rintro e w2 ⟨rfl, hb⟩
    have D2 := Lib.hid (D.out.trans (hb.mono D.out.size))
    have o := LO.out.later hb
    rw [HOC.out] at o
    have o0 := o.c 0 _ rfl
    have y0 := o.lt
    clear hb CV o
    go_wp2_with fail
    go_ret
    exact ⟨rfl, D2.out⟩

set_option maxRecDepth 100000 in
set_option maxHeartbeats 16000000 in
theorem rstate6_any {W : World} {F : Frm} {s : Au} {op : MOp} {rp : MRp} (R : IsAu W F s) (hk : op.kind = 6) (hu : U32 op.tk.seat) (hv : validA s.seats op.tk = true) {k : Nat} (hs : op.tk.seat = (k : Int)) (hlt : k < s.seats.length) (hl : s.seats.length ≤ 4096) : Calls Tryz.prog 39 #[auV F s, stV op rp] W fun e w' => e = .returned (.int .i64 (if wrongA s.seats op rp = true then 12 else 0)) ∧ Below W.heap.size W w' := by
  have CV := Lib.hid (fun w (hb : Below W.heap.size W w) => rvalid_any (R.up hb) op.tk hu)
  rw [hv] at CV
  unfold auV tkV at CV
  have hsA : seatA op = (k : Int) := by simp [seatA, hk, hs]
  have hT := Lib.hid (show wrongA s.seats op rp = (s.seats[k].serial == 18446744073709551615 || !(rp.tk == ⟨k, op.to, s.seats[k].serial + 1, s.seats[k].epoch⟩)) by simp [wrongA, isB, hk, hsA, List.getElem?_eq_getElem hlt])
  generalize wrongA s.seats op rp = M at hT ⊢
  have CS := Lib.hid (fun w => rspoken_any op w hu)
  rw [hsA] at CS
  unfold opV at CS
  clear hu hv hsA
  obtain ⟨b, off, hA, hbl, e0, e1, e2, e3, e4, e5, hx0, hx9, hx1, hx2⟩ := R.ss.atE hlt
  clear hx9
  have hk0 : (0 : Int) ≤ (k : Int) := by omega
  have hk1 : (k : Int) < (s.seats.length : Int) := by omega
  have E4 := Lib.hid e4
  generalize s.seats[k] = x at e0 e1 e2 e3 e4 e5 hx0 hx1 hx2 E4 hT
  clear hlt
  have HR := Lib.hid R
  have hcl := R.ss.cap
  have hcv := R.vs.cap
  have hcw := R.ws.cap
  clear R
  unfold auV stV
  obtain ⟨ve, now, seats, waiting⟩ := s
  obtain ⟨V, vc, A, ac, B, bc⟩ := F
  obtain ⟨ki, ow, ti, se, sc, nn, ot, ⟨ts, tow, tse, te⟩, onow⟩ := op
  obtain ⟨er, rs, rn, rd, ⟨us, uo, use_, ue⟩, pl⟩ := rp
  dsimp only at *
  obtain ⟨cs, hcs⟩ : ∃ cs : List Value, cs = [.int .i64 ve.shards, .int .i64 ve.ttl, .int .i64 ve.session, .slice V ve.secs.length vc, .int .i64 now, .slice A seats.length ac, .slice B waiting.length bc] := ⟨_, rfl⟩
  have HCS := Lib.hid hcs
  obtain ⟨xs, hxs⟩ : ∃ xs : List Value, xs = [.int .i64 ki, .int .u32 ow, .int .i64 ti, .int .i64 se, .int .i64 sc, .int .i64 nn, .int .u32 ot, .int .u32 ts, .int .u32 tow, .int .u64 tse, .int .u64 te, .int .i64 onow, .int .i64 er, .int .i64 rs, .int .i64 rn, .int .i64 rd, .int .u32 us, .int .u32 uo, .int .u64 use_, .int .u64 ue, .int .i64 pl] := ⟨_, rfl⟩
  have HXS := Lib.hid hxs
  obtain ⟨oc, hoc⟩ : ∃ oc : List Value, oc = [.int .i64 ki, .int .u32 ow, .int .i64 ti, .int .i64 se, .int .i64 sc, .int .i64 nn, .int .u32 ot, .int .u32 ts, .int .u32 tow, .int .u64 tse, .int .u64 te, .int .i64 onow] := ⟨_, rfl⟩
  have HOC := Lib.hid hoc
  subst hk hs
  subst hA
  have hl1 : b < W.heap.size + 1 := by omega
  have hl2 : b < W.heap.size + 1 + 1 := by omega
  obtain ⟨so, hh, xo, xt, xs_, xe⟩ := x
  dsimp only at e0 e1 e2 e3 e4 e5 hT hx0 hx1 hx2 E4
  go_enter Tryz.func39, Tryz.ntmps39
  go_wp2_with fail
  obtain ⟨q, hq⟩ : ∃ q, W.heap.size = q := ⟨_, rfl⟩
  rw [hq]
  refine at_call (fun w => Below W.heap.size W w ∧ Cells w q cs ∧ Cells w (q + 1) xs ∧ Cells w (q + 1 + 1) oc) ⟨bal (bal (ba _ _)), by rw [hcs]; exact ((Cells.newS _ _ _ _ hq.symm).alloc _).alloc _, by rw [hxs]; exact (Cells.newS _ _ _ _ (by simp [hq])).alloc _, by rw [hoc]; exact Cells.newS _ _ _ _ (by simp [hq])⟩ fun w1 ⟨hb1, k1, k2, k3⟩ => ?_
  have D := Lib.hid hb1
  have L := Lib.hid k1
  have LX := Lib.hid k2
  have LO := Lib.hid k3
  clear hb1 k1 k2 k3 hcs hxs hoc hq
  refine (CV.out _ D.out).mono ?_
  rintro e wv ⟨rfl, hb⟩
  have D0 := Lib.hid (D.out.trans (hb.mono D.out.size))
  have L0 := Lib.hid (L.out.later hb)
  have LX0 := Lib.hid (LX.out.later hb)
  have LO0 := Lib.hid (LO.out.later hb)
  clear hb CV D L LX LO
  have ko := LO0.out
  rw [HOC.out] at ko
  have o0 := ko.c 0 _ rfl
  have o1 := ko.c 1 _ rfl
  have o2 := ko.c 2 _ rfl
  have o3 := ko.c 3 _ rfl
  have o4 := ko.c 4 _ rfl
  have o5 := ko.c 5 _ rfl
  have o6 := ko.c 6 _ rfl
  have o7 := ko.c 7 _ rfl
  have o8 := ko.c 8 _ rfl
  have o9 := ko.c 9 _ rfl
  have o10 := ko.c 10 _ rfl
  have o11 := ko.c 11 _ rfl
  have y9 := ko.lt
  clear ko
  go_wp2_with fail
  refine (CS.out _).mono ?_
  rintro e w2 ⟨rfl, hb⟩
  have DW := Lib.hid (D0.out.trans (hb.mono D0.out.size))
  have L2 := Lib.hid (L0.out.later hb)
  have LX2 := Lib.hid (LX0.out.later hb)
  have LO2 := Lib.hid (LO0.out.later hb)
  clear hb CS D0 L0 LX0 LO0 o0 o1 o2 o3 o4 o5 o6 o7 o8 o9 o10 o11 y9
  have ks := L2.out
  rw [HCS.out] at ks
  have c5 := ks.c 5 _ rfl
  have y0 := ks.lt
  have kx := LX2.out
  rw [HXS.out] at kx
  have x16 := kx.c 16 _ rfl
  have x17 := kx.c 17 _ rfl
  have x18 := kx.c 18 _ rfl
  have x19 := kx.c 19 _ rfl
  have y1 := kx.lt
  have ko := LO2.out
  rw [HOC.out] at ko
  have o0 := ko.c 0 _ rfl
  have o1 := ko.c 1 _ rfl
  have o6 := ko.c 6 _ rfl
  have y2 := ko.lt
  clear ks kx ko
  have f4 := cell_later DW.out e4
  have f5 := cell_later DW.out e5
  have y3 : b < w2.heap.size := by have := DW.out.size; omega
  have hwu : IntKind.u32.wrap (k : Int) = (k : Int) := IntWalk.u32_in _ (by omega)
  obtain ⟨se1, hse1⟩ : ∃ v, IntKind.u64.wrap (xs_ + 1) = v := ⟨_, rfl⟩
  have HS1 := Lib.hid (show xs_ ≠ 18446744073709551615 → se1 = xs_ + 1 from fun h => by rw [← hse1]; exact IntWalk.u64_in _ (by unfold U64 at hx1; omega))
  clear e0 e1 e2 e3 e4 e5 hx0 hx1 hx2 hbl
  go_wp2_with fail
  go_big_region
  all_goals
    clear x16 x17 x18 x19 o0 o1 o6 f4 f5 c5
    refine at_world (fun w => Below w2.heap.size w2 w ∧ Cells w w2.heap.size [.int .u32 (k : Int), .int .u32 ow, .int .u64 se1, .int .u64 xe]) ⟨bdd (ba _ _), (Cells.newS _ _ _ _ rfl).drew⟩ fun w3 ⟨hb3, k3⟩ => ?_
    have D3 := Lib.hid (DW.out.trans (hb3.mono DW.out.size))
    have ks := L2.out.later hb3
    rw [HCS.out] at ks
    have c5 := ks.c 5 _ rfl
    have kx := LX2.out.later hb3
    rw [HXS.out] at kx
    have x16 := kx.c 16 _ rfl
    have x17 := kx.c 17 _ rfl
    have x18 := kx.c 18 _ rfl
    have x19 := kx.c 19 _ rfl
    have ko := LO2.out.later hb3
    rw [HOC.out] at ko
    have o0 := ko.c 0 _ rfl
    have o1 := ko.c 1 _ rfl
    have o6 := ko.c 6 _ rfl
    have n0 := k3.c 0 _ rfl
    have n1 := k3.c 1 _ rfl
    have n2 := k3.c 2 _ rfl
    have n3 := k3.c 3 _ rfl
    have m1 := k3.f 1
    have f4 := cell_later D3.out E4.out
    have s0 := k3.lt
    have s1 := hb3.size
    have s2 : q < w3.heap.size := by omega
    have s3 : q + 1 < w3.heap.size := by omega
    have s4 : q + 1 + 1 < w3.heap.size := by omega
    have s5 : b < w3.heap.size := by omega
    have hWw := DW.out.size
    clear ks kx ko hb3 k3 y0 y1 y2 y3 s1 hse1 hwu
    cases tm : (xs_ == 18446744073709551615)
    case true => as_aux_lemma =>
      by_cases q1 : us = (k : Int)
      · subst q1
        by_cases q2 : uo = ot
        · subst q2
          by_cases q3 : use_ = se1
          · subst q3
            by_cases q4 : ue = xe
            · subst q4
              obtain rfl : M = true := by rw [hT.out]; simp_all
              go_wp2_with fail
              go_ret
              exact ⟨rfl, D3.out.setCell (p := ⟨w2.heap.size, 1, none⟩) hWw _⟩
            · have t : (ue == xe) = false := by simpa using q4
              obtain rfl : M = true := by rw [hT.out]; simp_all
              clear q4
              go_wp2_with fail
              go_ret
              exact ⟨rfl, D3.out.setCell (p := ⟨w2.heap.size, 1, none⟩) hWw _⟩
          · have t : (use_ == se1) = false := by simpa using q3
            obtain rfl : M = true := by rw [hT.out]; simp_all
            clear q3
            go_wp2_with fail
            go_ret
            exact ⟨rfl, D3.out.setCell (p := ⟨w2.heap.size, 1, none⟩) hWw _⟩
        · have t : (uo == ot) = false := by simpa using q2
          obtain rfl : M = true := by rw [hT.out]; simp_all
          clear q2
          go_wp2_with fail
          go_ret
          exact ⟨rfl, D3.out.setCell (p := ⟨w2.heap.size, 1, none⟩) hWw _⟩
      · have t : (us == (k : Int)) = false := by simpa using q1
        obtain rfl : M = true := by rw [hT.out]; simp_all
        clear q1
        go_wp2_with fail
        go_ret
        exact ⟨rfl, D3.out.setCell (p := ⟨w2.heap.size, 1, none⟩) hWw _⟩
    case false => as_aux_lemma =>
      have hne : xs_ ≠ 18446744073709551615 := by simpa using tm
      obtain rfl := HS1.out hne
      by_cases q1 : us = (k : Int)
      · subst q1
        by_cases q2 : uo = ot
        · subst q2
          by_cases q3 : use_ = xs_ + 1
          · subst q3
            by_cases q4 : ue = xe
            · subst q4
              obtain rfl : M = false := by rw [hT.out]; simp_all
              go_wp2_with fail
              go_ret
              exact ⟨rfl, D3.out.setCell (p := ⟨w2.heap.size, 1, none⟩) hWw _⟩
            · have t : (ue == xe) = false := by simpa using q4
              obtain rfl : M = true := by rw [hT.out]; simp_all
              clear q4
              go_wp2_with fail
              go_ret
              exact ⟨rfl, D3.out.setCell (p := ⟨w2.heap.size, 1, none⟩) hWw _⟩
          · have t : (use_ == xs_ + 1) = false := by simpa using q3
            obtain rfl : M = true := by rw [hT.out]; simp_all
            clear q3
            go_wp2_with fail
            go_ret
            exact ⟨rfl, D3.out.setCell (p := ⟨w2.heap.size, 1, none⟩) hWw _⟩
        · have t : (uo == ot) = false := by simpa using q2
          obtain rfl : M = true := by rw [hT.out]; simp_all
          clear q2
          go_wp2_with fail
          go_ret
          exact ⟨rfl, D3.out.setCell (p := ⟨w2.heap.size, 1, none⟩) hWw _⟩
      · have t : (us == (k : Int)) = false := by simpa using q1
        obtain rfl : M = true := by rw [hT.out]; simp_all
        clear q1
        go_wp2_with fail
        go_ret
        exact ⟨rfl, D3.out.setCell (p := ⟨w2.heap.size, 1, none⟩) hWw _⟩


set_option maxRecDepth 100000 in
set_option maxHeartbeats 16000000 in
theorem rstate8_any {W : World} {F : Frm} {s : Au} {op : MOp} {rp : MRp} (R : IsAu W F s) (hk : op.kind = 8) {k : Nat} (hs : op.seat = (k : Int)) (hlt : k < s.seats.length) : Calls Tryz.prog 39 #[auV F s, stV op rp] W fun e w' => e = .returned (.int .i64 (if soldA s.seats op = true then 11 else 0)) ∧ Below W.heap.size W w' := by
  have hT := Lib.hid (show soldA s.seats op = (!s.seats[k].sold || s.seats[k].epoch == 18446744073709551615) by simp [soldA, isB, hk, hs, List.getElem?_eq_getElem hlt])
  generalize soldA s.seats op = H at hT ⊢
  obtain ⟨b, off, hA, hbl, e0, e1, e2, e3, e4, e5, hx0, hx9, hx1, hx2⟩ := R.ss.atE hlt
  clear hx9
  have hk0 : (0 : Int) ≤ (k : Int) := by omega
  have hk1 : (k : Int) < (s.seats.length : Int) := by omega
  have E4 := Lib.hid e4
  generalize s.seats[k] = x at e0 e1 e2 e3 e4 e5 hx0 hx1 hx2 E4 hT
  clear hlt
  have HR := Lib.hid R
  have hcl := R.ss.cap
  have hcv := R.vs.cap
  have hcw := R.ws.cap
  clear R
  unfold auV stV
  obtain ⟨ve, now, seats, waiting⟩ := s
  obtain ⟨V, vc, A, ac, B, bc⟩ := F
  obtain ⟨ki, ow, ti, se, sc, nn, ot, ⟨ts, tow, tse, te⟩, onow⟩ := op
  obtain ⟨er, rs, rn, rd, ⟨us, uo, use_, ue⟩, pl⟩ := rp
  dsimp only at *
  subst hk hs
  subst hA
  have hl1 : b < W.heap.size + 1 := by omega
  have hl2 : b < W.heap.size + 1 + 1 := by omega
  obtain ⟨so, hh, xo, xt, xs, xe⟩ := x
  dsimp only at e0 e1 e2 e3 e4 e5 hT
  clear hx0 hx1 hx2 E4
  cases so with
  | false =>
    obtain rfl : H = true := by rw [hT.out]; rfl
    go_enter Tryz.func39, Tryz.ntmps39
    go_wp2_with fail
    go_ret
    exact ⟨rfl, bal (bal (ba _ _))⟩
  | true =>
    cases h1 : (xe == 18446744073709551615) with
    | true =>
      obtain rfl : H = true := by rw [hT.out, h1]; rfl
      go_enter Tryz.func39, Tryz.ntmps39
      go_wp2_with fail
      go_ret
      exact ⟨rfl, bal (bal (ba _ _))⟩
    | false =>
      obtain rfl : H = false := by rw [hT.out, h1]; rfl
      go_enter Tryz.func39, Tryz.ntmps39
      go_wp2_with fail
      go_ret
      exact ⟨rfl, bal (bal (ba _ _))⟩

set_option maxRecDepth 100000 in
set_option maxHeartbeats 16000000 in
theorem rstate11_any {W : World} {F : Frm} {s : Au} {op : MOp} {rp : MRp} (R : IsAu W F s) (hk : op.kind = 11) {k : Nat} (hs : op.section_ = (k : Int)) (hlt : k < s.waiting.length) : Calls Tryz.prog 39 #[auV F s, stV op rp] W fun e w' => e = .returned (.int .i64 (if listA s.ve s.waiting op rp = true then 13 else 0)) ∧ Below W.heap.size W w' := by
  have hT := Lib.hid (show listA s.ve s.waiting op rp = (s.waiting[k] == 0) by simp [listA, isB, hk, hs, waitOf, List.getElem?_eq_getElem hlt])
  generalize listA s.ve s.waiting op rp = H at hT ⊢
  obtain ⟨b, off, hB, hbl, e0, hx⟩ := R.ws.atI hlt
  clear hx
  have hk0 : (0 : Int) ≤ (k : Int) := by omega
  have hk1 : (k : Int) < (s.waiting.length : Int) := by omega
  generalize s.waiting[k] = x at e0 hT
  clear hlt
  have HR := Lib.hid R
  have hcl := R.ss.cap
  have hcv := R.vs.cap
  have hcw := R.ws.cap
  clear R
  unfold auV stV
  obtain ⟨ve, now, seats, waiting⟩ := s
  obtain ⟨V, vc, A, ac, B, bc⟩ := F
  obtain ⟨ki, ow, ti, se, sc, nn, ot, ⟨ts, tow, tse, te⟩, onow⟩ := op
  obtain ⟨er, rs, rn, rd, ⟨us, uo, use_, ue⟩, pl⟩ := rp
  dsimp only at *
  subst hk hs
  subst hB
  have hl1 : b < W.heap.size + 1 := by omega
  have hl2 : b < W.heap.size + 1 + 1 := by omega
  cases h1 : (x == 0) with
  | true =>
    obtain rfl : H = true := by rw [hT.out, h1]
    go_enter Tryz.func39, Tryz.ntmps39
    go_wp2_with fail
    go_ret
    exact ⟨rfl, bal (bal (ba _ _))⟩
  | false =>
    obtain rfl : H = false := by rw [hT.out, h1]
    go_enter Tryz.func39, Tryz.ntmps39
    go_wp2_with fail
    go_ret
    exact ⟨rfl, bal (bal (ba _ _))⟩

set_option maxRecDepth 100000 in
set_option maxHeartbeats 16000000 in
theorem rstate10_any {W : World} {F : Frm} {s : Au} {op : MOp} {rp : MRp} (R : IsAu W F s) (hk : op.kind = 10) {k : Nat} (hs : op.section_ = (k : Int)) (hlt : k < s.waiting.length) (hw : s.waiting.length = s.ve.secs.length) (hwb : 0 ≤ s.waiting[k] ∧ s.waiting[k] ≤ 64) : Calls Tryz.prog 39 #[auV F s, stV op rp] W fun e w' => e = .returned (.int .i64 (if listA s.ve s.waiting op rp = true then 13 else 0)) ∧ Below W.heap.size W w' := by
  have hlt2 : k < s.ve.secs.length := by omega
  have hT := Lib.hid (show listA s.ve s.waiting op rp = (decide (rp.place < 1) || decide (min s.ve.secs[k].queue (s.waiting[k] + 1) < rp.place)) by simp [listA, isB, hk, hs, waitOf, queueOf, List.getElem?_eq_getElem hlt, List.getElem?_eq_getElem hlt2])
  generalize listA s.ve s.waiting op rp = H at hT ⊢
  obtain ⟨b, off, hB, hbl, e0, hx⟩ := R.ws.atI hlt
  clear hx
  have hk0 : (0 : Int) ≤ (k : Int) := by omega
  have hk1 : (k : Int) < (s.waiting.length : Int) := by omega
  obtain ⟨b2, off2, A2, c2, hV, hbl2, g0, g1, g2, hz9⟩ := R.vs.atS hlt2
  have hk2 : (k : Int) < (s.ve.secs.length : Int) := by omega
  clear hz9 hw
  generalize s.waiting[k] = x at e0 hT hwb
  generalize s.ve.secs[k].queue = qu at g2 hT
  clear g0 g1 hlt hlt2
  have HR := Lib.hid R
  have hcl := R.ss.cap
  have hcv := R.vs.cap
  have hcw := R.ws.cap
  clear R
  unfold auV stV
  obtain ⟨ve, now, seats, waiting⟩ := s
  obtain ⟨V, vc, A, ac, B, bc⟩ := F
  obtain ⟨ki, ow, ti, se, sc, nn, ot, ⟨ts, tow, tse, te⟩, onow⟩ := op
  obtain ⟨er, rs, rn, rd, ⟨us, uo, use_, ue⟩, pl⟩ := rp
  dsimp only at *
  obtain ⟨cs, hcs⟩ : ∃ cs : List Value, cs = [.int .i64 ve.shards, .int .i64 ve.ttl, .int .i64 ve.session, .slice V ve.secs.length vc, .int .i64 now, .slice A seats.length ac, .slice B waiting.length bc] := ⟨_, rfl⟩
  have HCS := Lib.hid hcs
  obtain ⟨xs, hxs⟩ : ∃ xs : List Value, xs = [.int .i64 ki, .int .u32 ow, .int .i64 ti, .int .i64 se, .int .i64 sc, .int .i64 nn, .int .u32 ot, .int .u32 ts, .int .u32 tow, .int .u64 tse, .int .u64 te, .int .i64 onow, .int .i64 er, .int .i64 rs, .int .i64 rn, .int .i64 rd, .int .u32 us, .int .u32 uo, .int .u64 use_, .int .u64 ue, .int .i64 pl] := ⟨_, rfl⟩
  have HXS := Lib.hid hxs
  obtain ⟨oc, hoc⟩ : ∃ oc : List Value, oc = [.int .i64 ki, .int .u32 ow, .int .i64 ti, .int .i64 se, .int .i64 sc, .int .i64 nn, .int .u32 ot, .int .u32 ts, .int .u32 tow, .int .u64 tse, .int .u64 te, .int .i64 onow] := ⟨_, rfl⟩
  have HOC := Lib.hid hoc
  subst hk hs
  subst hB
  have hl1 : b < W.heap.size + 1 := by omega
  have hl2 : b < W.heap.size + 1 + 1 := by omega
  subst hV
  have hwr : IntKind.i64.wrap (x + 1) = x + 1 := IntWalk.i64_in _ (by omega)
  go_enter Tryz.func39, Tryz.ntmps39
  go_wp2_with fail
  obtain ⟨q, hq⟩ : ∃ q, W.heap.size = q := ⟨_, rfl⟩
  rw [hq]
  refine at_world (fun w => Below W.heap.size W w ∧ Cells w q cs ∧ Cells w (q + 1) xs ∧ Cells w (q + 1 + 1) oc) ⟨bal (bal (ba _ _)), by rw [hcs]; exact ((Cells.newS _ _ _ _ hq.symm).alloc _).alloc _, by rw [hxs]; exact (Cells.newS _ _ _ _ (by simp [hq])).alloc _, by rw [hoc]; exact Cells.newS _ _ _ _ (by simp [hq])⟩ fun w1 ⟨hb1, k1, k2, k3⟩ => ?_
  have D := Lib.hid hb1
  have L := Lib.hid k1
  have LX := Lib.hid k2
  have LO := Lib.hid k3
  clear hb1 k1 k2 k3 hcs hxs hoc hq
  have ks := L.out
  rw [HCS.out] at ks
  have c3 := ks.c 3 _ rfl
  have c6 := ks.c 6 _ rfl
  have y0 := ks.lt
  have kx := LX.out
  rw [HXS.out] at kx
  have x20 := kx.c 20 _ rfl
  have y1 := kx.lt
  have ko := LO.out
  rw [HOC.out] at ko
  have o0 := ko.c 0 _ rfl
  have o4 := ko.c 4 _ rfl
  have y2 := ko.lt
  have f0 := cell_later D.out e0
  have f2 := cell_later D.out g2
  have y3 : b < w1.heap.size := by have := D.out.size; omega
  have y4 : b2 < w1.heap.size := by have := D.out.size; omega
  clear ks kx ko e0 g2 hbl hbl2 hwb
  by_cases h1 : pl < 1
  · have t1 : decide (pl < 1) = true := decide_eq_true h1
    obtain rfl : H = true := by rw [hT.out, t1]; rfl
    clear hT h1
    go_quiet (fail)
    go_wp2_with fail
    go_ret
    exact ⟨rfl, bdN D.out _⟩
  have t1 : decide (pl < 1) = false := decide_eq_false h1
  by_cases h2 : qu < pl
  · have t2 : decide (qu < pl) = true := decide_eq_true h2
    obtain rfl : H = true := by rw [hT.out, t1, decide_eq_true (show min qu (x + 1) < pl by omega)]; rfl
    clear hT h1 h2
    go_quiet (fail)
    go_wp2_with fail
    go_ret
    exact ⟨rfl, bdN D.out _⟩
  have t2 : decide (qu < pl) = false := decide_eq_false h2
  by_cases h3 : x + 1 < pl
  · have t3 : decide (x + 1 < pl) = true := decide_eq_true h3
    obtain rfl : H = true := by rw [hT.out, t1, decide_eq_true (show min qu (x + 1) < pl by omega)]; rfl
    clear hT h1 h2 h3
    go_quiet (fail)
    go_wp2_with fail
    go_ret
    exact ⟨rfl, bdN D.out _⟩
  · have t3 : decide (x + 1 < pl) = false := decide_eq_false h3
    obtain rfl : H = false := by rw [hT.out, t1, decide_eq_false (show ¬ min qu (x + 1) < pl by omega)]; rfl
    clear hT h1 h2 h3
    go_quiet (fail)
    go_wp2_with fail
    go_ret
    exact ⟨rfl, bdN D.out _⟩
end Go.Proofs.YtcomfhigbjkoeaaGreatDoor

namespace Go.Proofs.YtcomfhigbjkoeaaGreatDoor
open Go.RowKit

/-- The rules from the eighth on, of a step that breaks none before. -/
def stateA (s : Au) (op : MOp) (rp : MRp) : Int := if takenA s.seats op rp = true then 8 else if holderA s.seats op = true then 9 else if validB s.seats op = true then 10 else if soldA s.seats op = true then 11 else if wrongA s.seats op rp = true then 12 else if listA s.ve s.waiting op rp = true then 13 else 0

theorem brokenA_eq (s : Au) (op : MOp) (rp : MRp) : brokenA s op rp = if moreA op.kind rp = true then 1 else if rp.err ≠ 0 then (if (isB [9] op.kind && validA s.seats op.tk) = true then 2 else 0) else if sessionA s op = true then 3 else if ownerA op = true then 4 else if lostA s op rp = true then 5 else if clockA s op = true then 6 else if lateA s.ve s.now op.kind rp.deadline = true then 7 else stateA s op rp := by
  unfold brokenA stateA
  by_cases h1 : moreA op.kind rp = true
  · rw [if_pos h1, if_pos h1]
  rw [if_neg h1, if_neg h1]
  by_cases h2 : rp.err ≠ 0
  · rw [if_pos h2, if_pos h2]
  rw [if_neg h2, if_neg h2]
  rw [show List.range 11 = [0, 1, 2, 3, 4, 5, 6, 7, 8, 9, 10] from rfl]
  simp only [List.find?_cons, List.find?_nil, ruleA]
  generalize sessionA s op = b0
  generalize ownerA op = b1
  generalize lostA s op rp = b2
  generalize clockA s op = b3
  generalize lateA s.ve s.now op.kind rp.deadline = b4
  generalize takenA s.seats op rp = b5
  generalize holderA s.seats op = b6
  generalize validB s.seats op = b7
  generalize soldA s.seats op = b8
  generalize wrongA s.seats op rp = b9
  generalize listA s.ve s.waiting op rp = b10
  cases b0 with | true => rfl | false => ?_
  cases b1 with | true => rfl | false => ?_
  cases b2 with | true => rfl | false => ?_
  cases b3 with | true => rfl | false => ?_
  cases b4 with | true => rfl | false => ?_
  cases b5 with | true => rfl | false => ?_
  cases b6 with | true => rfl | false => ?_
  cases b7 with | true => rfl | false => ?_
  cases b8 with | true => rfl | false => ?_
  cases b9 with | true => rfl | false => ?_
  cases b10 with | true => rfl | false => rfl

theorem rstate_any {W : World} {F : Frm} {s : Au} {op : MOp} {rp : MRp} (R : IsAu W F s) (ok : Aok s) (hk1 : 1 ≤ op.kind) (hk2 : op.kind ≤ 12) (hu : U32 op.tk.seat) (hl : lostA s op rp = false) : Calls Tryz.prog 39 #[auV F s, stV op rp] W fun e w' => e = .returned (.int .i64 (stateA s op rp)) ∧ Below W.heap.size W w' := by
  have hlen := ok.len
  have h12 : op.kind = 1 ∨ op.kind = 2 ∨ op.kind = 3 ∨ op.kind = 4 ∨ op.kind = 5 ∨ op.kind = 6 ∨ op.kind = 7 ∨ op.kind = 8 ∨ op.kind = 9 ∨ op.kind = 10 ∨ op.kind = 11 ∨ op.kind = 12 := by omega
  rcases h12 with hk | hk | hk | hk | hk | hk | hk | hk | hk | hk | hk | hk
  · rw [show stateA s op rp = 0 by simp [stateA, takenA, holderA, validB, soldA, wrongA, listA, isB, hk]]
    exact rstateZ_any R (.inl hk)
  · obtain ⟨k, hs, hlt⟩ := lost_seat hl (by simp [isB, hk]) (by simp [isB, hk])
    have hs2 : op.seat = (k : Int) := by simpa [seatA, hk] using hs
    rw [show stateA s op rp = if ((s.seats.drop k).take 1).any (fun x => x.sold || x.held) = true then 8 else 0 by simp [stateA, takenA, chosenL, holderA, validB, soldA, wrongA, listA, isB, hk, hs2]]
    exact rstateH2_any R hk (by rw [if_neg (by omega), hs2]) (by rw [if_neg (by omega)]; rfl) (by omega) hlen
  · obtain ⟨k, m, hs, hm, hkm, _⟩ := lost_block ok hl (by simp [isB, hk])
    rw [show stateA s op rp = if ((s.seats.drop k).take m).any (fun x => x.sold || x.held) = true then 8 else 0 by simp [stateA, takenA, chosenL, holderA, validB, soldA, wrongA, listA, isB, hk, hs, hm]]
    exact rstateH3_any R hk (by rw [if_pos hk, hs]) (by rw [if_pos hk, hm]) hkm hlen
  · obtain ⟨k, hs, hlt⟩ := lost_seat hl (by simp [isB, hk]) (by simp [isB, hk])
    have hs2 : op.seat = (k : Int) := by simpa [seatA, hk] using hs
    rw [show stateA s op rp = if holderA s.seats op = true then 9 else 0 by simp [stateA, takenA, validB, soldA, wrongA, listA, isB, hk]]
    exact rstate4_any R hk hs2 hlt
  · obtain ⟨k, hs, hlt⟩ := lost_seat hl (by simp [isB, hk]) (by simp [isB, hk])
    have hs2 : op.seat = (k : Int) := by simpa [seatA, hk] using hs
    cases hh : holderA s.seats op with
    | true =>
      rw [show stateA s op rp = 9 by simp [stateA, takenA, isB, hk, hh]]
      exact rstate5h_any R hk hs2 hlt hh
    | false =>
      rw [show stateA s op rp = if wrongA s.seats op rp = true then 12 else 0 by simp [stateA, takenA, validB, soldA, listA, isB, hk, hh]]
      exact rstate5_any R hk hs2 hlt hlen hu hh
  · obtain ⟨k, hs, hlt⟩ := lost_seat hl (by simp [isB, hk]) (by simp [isB, hk])
    have hs2 : op.tk.seat = (k : Int) := by simpa [seatA, hk] using hs
    cases hv : validA s.seats op.tk with
    | false =>
      rw [show stateA s op rp = 10 by simp [stateA, takenA, holderA, validB, isB, hk, hv]]
      exact rstateV_any R (.inl hk) hu hv
    | true =>
      rw [show stateA s op rp = if wrongA s.seats op rp = true then 12 else 0 by simp [stateA, takenA, holderA, validB, soldA, listA, isB, hk, hv]]
      exact rstate6_any R hk hu hv hs2 hlt hlen
  · cases hv : validA s.seats op.tk with
    | false =>
      rw [show stateA s op rp = 10 by simp [stateA, takenA, holderA, validB, isB, hk, hv]]
      exact rstateV_any R (.inr (.inl hk)) hu hv
    | true =>
      rw [show stateA s op rp = 0 by simp [stateA, takenA, holderA, validB, soldA, wrongA, listA, isB, hk, hv]]
      exact rstate79_any R (.inl hk) hu hv
  · obtain ⟨k, hs, hlt⟩ := lost_seat hl (by simp [isB, hk]) (by simp [isB, hk])
    have hs2 : op.seat = (k : Int) := by simpa [seatA, hk] using hs
    rw [show stateA s op rp = if soldA s.seats op = true then 11 else 0 by simp [stateA, takenA, holderA, validB, wrongA, listA, isB, hk]]
    exact rstate8_any R hk hs2 hlt
  · cases hv : validA s.seats op.tk with
    | false =>
      rw [show stateA s op rp = 10 by simp [stateA, takenA, holderA, validB, isB, hk, hv]]
      exact rstateV_any R (.inr (.inr hk)) hu hv
    | true =>
      rw [show stateA s op rp = 0 by simp [stateA, takenA, holderA, validB, soldA, wrongA, listA, isB, hk, hv]]
      exact rstate79_any R (.inr hk) hu hv
  · obtain ⟨k, hs, hlt⟩ := lost_section hl (by simp [isB, hk])
    rw [show stateA s op rp = if listA s.ve s.waiting op rp = true then 13 else 0 by simp [stateA, takenA, holderA, validB, soldA, wrongA, isB, hk]]
    have h3 := ok.hwait k _ (List.getElem?_eq_getElem hlt)
    have h4 := ok.queue k
    exact rstate10_any R hk hs hlt ok.hw ⟨h3.1, by omega⟩
  · obtain ⟨k, hs, hlt⟩ := lost_section hl (by simp [isB, hk])
    rw [show stateA s op rp = if listA s.ve s.waiting op rp = true then 13 else 0 by simp [stateA, takenA, holderA, validB, soldA, wrongA, isB, hk]]
    exact rstate11_any R hk hs hlt
  · rw [show stateA s op rp = 0 by simp [stateA, takenA, holderA, validB, soldA, wrongA, listA, isB, hk]]
    exact rstateZ_any R (.inr hk)


set_option maxRecDepth 100000 in
set_option maxHeartbeats 16000000 in
theorem rbroken_any {W : World} {F : Frm} {s : Au} {op : MOp} {rp : MRp} (R : IsAu W F s) (ok : Aok s) (hk1 : 1 ≤ op.kind) (hk2 : op.kind ≤ 12) (hu : U32 op.tk.seat) : Calls Tryz.prog 22 #[auV F s, stV op rp] W fun e w' => e = .returned (.int .i64 (brokenA s op rp)) ∧ Below W.heap.size W w' := by
  have hT := Lib.hid (brokenA_eq s op rp)
  generalize brokenA s op rp = M at hT ⊢
  have C1 := Lib.hid (fun w => rreply_any op rp w)
  have C2 := Lib.hid (fun w (hb : Below W.heap.size W w) => rvalid_any (R.up hb) op.tk hu)
  have C3 := Lib.hid (fun w => rsession_any op.kind w)
  have C4 := Lib.hid (fun w => rowner_any op w)
  have C5 := Lib.hid (fun w (hb : Below W.heap.size W w) => rlost_any (rp := rp) (R.up hb) ok.hw hu)
  have C6 := Lib.hid (fun w (hb : Below W.heap.size W w) => rdeadline_any (R.up hb) op rp)
  have C7 := Lib.hid (fun hl w (hb : Below W.heap.size W w) => rstate_any (rp := rp) (R.up hb) ok hk1 hk2 hu hl)
  rw [show sessionA s op = (!isB [1, 9, 12] op.kind && decide (op.till ≤ s.now)) from rfl, show clockA s op = (isB [12] op.kind && decide (op.now < s.now)) from rfl] at hT
  clear R ok hk1 hk2 hu
  generalize moreA op.kind rp = b1 at hT C1
  generalize validA s.seats op.tk = b2 at hT C2
  generalize isB [1, 9, 12] op.kind = b3 at hT C3
  generalize ownerA op = b4 at hT C4
  generalize lostA s op rp = b5 at hT C5 C7
  generalize lateA s.ve s.now op.kind rp.deadline = b6 at hT C6
  generalize stateA s op rp = b7 at hT C7
  unfold tkV at C2
  unfold opV at C4
  obtain ⟨sv, hsv⟩ : ∃ sv, auV F s = sv := ⟨_, rfl⟩
  obtain ⟨xv, hxv⟩ : ∃ xv, stV op rp = xv := ⟨_, rfl⟩
  rw [hsv] at C2 C5 C6 C7
  rw [hxv] at C1 C5 C6 C7
  unfold auV at hsv ⊢
  unfold stV at hxv ⊢
  obtain ⟨ve, now, seats, waiting⟩ := s
  obtain ⟨V, vc, A, ac, B, bc⟩ := F
  obtain ⟨ki, ow, ti, se, sc, nn, ot, ⟨ts, tow, tse, te⟩, onow⟩ := op
  obtain ⟨er, rs, rn, rd, ⟨us, uo, use_, ue⟩, pl⟩ := rp
  dsimp only at *
  obtain ⟨cs, hcs⟩ : ∃ cs : List Value, cs = [.int .i64 ve.shards, .int .i64 ve.ttl, .int .i64 ve.session, .slice V ve.secs.length vc, .int .i64 now, .slice A seats.length ac, .slice B waiting.length bc] := ⟨_, rfl⟩
  have HCS := Lib.hid hcs
  obtain ⟨xs, hxs⟩ : ∃ xs : List Value, xs = [.int .i64 ki, .int .u32 ow, .int .i64 ti, .int .i64 se, .int .i64 sc, .int .i64 nn, .int .u32 ot, .int .u32 ts, .int .u32 tow, .int .u64 tse, .int .u64 te, .int .i64 onow, .int .i64 er, .int .i64 rs, .int .i64 rn, .int .i64 rd, .int .u32 us, .int .u32 uo, .int .u64 use_, .int .u64 ue, .int .i64 pl] := ⟨_, rfl⟩
  have HXS := Lib.hid hxs
  have hcs2 : sv = .agg cs.toArray := by rw [hcs]; exact hsv.symm
  have hxs2 : xv = .agg xs.toArray := by rw [hxs]; exact hxv.symm
  have HS1 := Lib.hid (show (Tryz.prog.info? 37).map (·.size) = some cs.length by rw [hcs]; kernel_rfl)
  have HS2 := Lib.hid (show (Tryz.prog.info? 47).map (·.size) = some xs.length by rw [hxs]; kernel_rfl)
  clear hsv hxv
  subst hcs2 hxs2
  go_enter Tryz.func22, Tryz.ntmps22
  go_upto_region 1 with fail
  obtain ⟨q, hq⟩ : ∃ q, W.heap.size = q := ⟨_, rfl⟩
  rw [hq]
  refine at_world (fun w => Below W.heap.size W w ∧ Cells w q cs ∧ Cells w (q + 1) xs) ⟨bal (ba _ _), by rw [hcs]; exact (Cells.newS _ _ _ _ hq.symm).alloc _, by rw [hxs]; exact Cells.newS _ _ _ _ (by simp [hq])⟩ fun w0 ⟨hb0, k1, k2⟩ => ?_
  have D0 := Lib.hid hb0
  have L0 := Lib.hid k1
  have X0 := Lib.hid k2
  clear hb0 k1 k2 hcs hxs hq
  go_wp2_with (refine wpList_load_mid rfl 47 (.tmp 3) rfl (q + 1) 0 rfl xs _ X0.out.range Tryz.underlying47 rfl HS2.out ?_)
  refine (C1.out _).mono ?_
  rintro e w1 ⟨rfl, hb⟩
  have D1 := Lib.hid (D0.out.trans (hb.mono D0.out.size))
  have L1 := Lib.hid (L0.out.later hb)
  have X1 := Lib.hid (X0.out.later hb)
  clear hb C1 D0 L0 X0
  cases b1 with
  | true => as_aux_lemma =>
    obtain rfl : M = 1 := by rw [hT.out]; rfl
    clear hT
    go_wp2_with fail
    go_ret
    exact ⟨rfl, D1.out⟩
  | false =>
  by_cases he : er = 0
  case neg => as_aux_lemma =>
    have t0 : (er != 0) = true := by simpa using he
    have hM := Lib.hid (show M = if (isB [9] ki && b2) = true then 2 else 0 by rw [hT.out, if_neg (by simp), if_pos he])
    clear hT he
    have C2' := C2.out _ D1.out
    rw [HCS.out] at C2'
    have C22 := Lib.hid C2'
    clear C2'
    have kk := L1.out
    rw [HCS.out] at kk
    have c0 := kk.c 0 _ rfl
    have c1 := kk.c 1 _ rfl
    have c2 := kk.c 2 _ rfl
    have c3 := kk.c 3 _ rfl
    have c4 := kk.c 4 _ rfl
    have c5 := kk.c 5 _ rfl
    have c6 := kk.c 6 _ rfl
    have y0 := kk.lt
    clear kk
    have kk := X1.out
    rw [HXS.out] at kk
    have x0 := kk.c 0 _ rfl
    have x7 := kk.c 7 _ rfl
    have x8 := kk.c 8 _ rfl
    have x9 := kk.c 9 _ rfl
    have x10 := kk.c 10 _ rfl
    have x12 := kk.c 12 _ rfl
    have y1 := kk.lt
    clear kk
    by_cases hk : ki = 9
    · subst hk
      go_wp2_with fail
      refine C22.out.mono ?_
      rintro e w2 ⟨rfl, hb⟩
      have D2 := Lib.hid (D1.out.trans (hb.mono D1.out.size))
      clear hb c0 c1 c2 c3 c4 c5 c6 x0 x7 x8 x9 x10 x12 y0 y1
      cases b2 with
      | true =>
        obtain rfl : M = 2 := by rw [hM.out]; rfl
        go_wp2_with fail
        go_ret
        exact ⟨rfl, D2.out⟩
      | false =>
        obtain rfl : M = 0 := by rw [hM.out]; rfl
        go_wp2_with fail
        go_ret
        exact ⟨rfl, D2.out⟩
    · have t1 : (ki == 9) = false := by simpa using hk
      obtain rfl : M = 0 := by rw [hM.out]; simp [isB, hk]
      clear hk
      go_wp2_with fail
      go_ret
      exact ⟨rfl, D1.out⟩
  subst he
  have hT1 := Lib.hid (show M = if (!b3 && decide (ti ≤ now)) = true then 3 else if b4 = true then 4 else if b5 = true then 5 else if (isB [12] ki && decide (onow < now)) = true then 6 else if b6 = true then 7 else b7 by rw [hT.out, if_neg (by simp), if_neg (by simp)])
  clear hT C2
  have kk := X1.out
  rw [HXS.out] at kk
  have x0 := kk.c 0 _ rfl
  have x12 := kk.c 12 _ rfl
  have y1 := kk.lt
  clear kk
  go_upto_region 7 with fail
  clear x12
  go_cut [22] from 23 to 34 (fun v W' => v = .bool (!b3 && decide (ti ≤ now)) ∧ Below w1.heap.size w1 W')
  case first => as_aux_lemma =>
    go_wp2_with fail
    refine (C3.out _).mono ?_
    rintro e w2 ⟨rfl, hb⟩
    have HB := Lib.hid hb
    have L2 := Lib.hid (L1.out.later hb)
    have X2 := Lib.hid (X1.out.later hb)
    clear hb x0 y1
    have kk := L2.out
    rw [HCS.out] at kk
    have c4 := kk.c 4 _ rfl
    have y0 := kk.lt
    clear kk
    have kk := X2.out
    rw [HXS.out] at kk
    have x2 := kk.c 2 _ rfl
    have y1 := kk.lt
    clear kk
    cases b3 with
    | true =>
      go_wp2_with fail
      go_meet
      exact ⟨rfl, HB.out⟩
    | false =>
      cases td : decide (ti ≤ now) with
      | true =>
        go_wp2_with fail
        go_meet
        exact ⟨by rw [td]; rfl, HB.out⟩
      | false =>
        go_wp2_with fail
        go_meet
        exact ⟨by rw [td]; rfl, HB.out⟩
  case rest =>
  obtain ⟨rfl, hb⟩ := hcut
  have D2 := Lib.hid (D1.out.trans (hb.mono D1.out.size))
  have L2 := Lib.hid (L1.out.later hb)
  have X2 := Lib.hid (X1.out.later hb)
  clear hb C3 D1 L1 X1 x0 y1
  generalize (!b3 && decide (ti ≤ now)) = bs at hT1 ⊢
  cases bs with
  | true => as_aux_lemma =>
    obtain rfl : M = 3 := by rw [hT1.out]; rfl
    clear hT1
    go_wp2_with fail
    go_ret
    exact ⟨rfl, D2.out⟩
  | false =>
  have kk := X2.out
  rw [HXS.out] at kk
  have x0 := kk.c 0 _ rfl
  have x1 := kk.c 1 _ rfl
  have x2 := kk.c 2 _ rfl
  have x3 := kk.c 3 _ rfl
  have x4 := kk.c 4 _ rfl
  have x5 := kk.c 5 _ rfl
  have x6 := kk.c 6 _ rfl
  have x7 := kk.c 7 _ rfl
  have x8 := kk.c 8 _ rfl
  have x9 := kk.c 9 _ rfl
  have x10 := kk.c 10 _ rfl
  have x11 := kk.c 11 _ rfl
  have y1 := kk.lt
  clear kk
  go_wp2_with fail
  refine (C4.out _).mono ?_
  rintro e w3 ⟨rfl, hb⟩
  have D3 := Lib.hid (D2.out.trans (hb.mono D2.out.size))
  have L3 := Lib.hid (L2.out.later hb)
  have X3 := Lib.hid (X2.out.later hb)
  clear hb C4 D2 L2 X2 x0 x1 x2 x3 x4 x5 x6 x7 x8 x9 x10 x11 y1
  cases b4 with
  | true => as_aux_lemma =>
    obtain rfl : M = 4 := by rw [hT1.out]; rfl
    clear hT1
    go_wp2_with fail
    go_ret
    exact ⟨rfl, D3.out⟩
  | false =>
  go_wp2_with (first | refine wpList_load_mid rfl 37 (.tmp 2) rfl q 0 rfl cs _ L3.out.range Tryz.underlying37 rfl HS1.out ?_ | refine wpList_load_mid rfl 47 (.tmp 3) rfl (q + 1) 0 rfl xs _ X3.out.range Tryz.underlying47 rfl HS2.out ?_)
  refine (C5.out _ D3.out).mono ?_
  rintro e w4 ⟨rfl, hb⟩
  have D4 := Lib.hid (D3.out.trans (hb.mono D3.out.size))
  have L4 := Lib.hid (L3.out.later hb)
  have X4 := Lib.hid (X3.out.later hb)
  clear hb C5 D3 L3 X3
  cases b5 with
  | true => as_aux_lemma =>
    obtain rfl : M = 5 := by rw [hT1.out]; rfl
    clear hT1
    go_wp2_with fail
    go_ret
    exact ⟨rfl, D4.out⟩
  | false =>
  go_upto_region 13 with fail
  go_cut [43] from 44 to 55 (fun v W' => v = .bool (isB [12] ki && decide (onow < now)) ∧ W' = w4)
  case first => as_aux_lemma =>
    have kk := L4.out
    rw [HCS.out] at kk
    have c4 := kk.c 4 _ rfl
    have y0 := kk.lt
    clear kk
    have kk := X4.out
    rw [HXS.out] at kk
    have x0 := kk.c 0 _ rfl
    have x11 := kk.c 11 _ rfl
    have y1 := kk.lt
    clear kk
    by_cases hk : ki = 12
    · subst hk
      cases td : decide (onow < now) with
      | true =>
        go_wp2_with fail
        go_meet
        exact ⟨by simp [isB, td], rfl⟩
      | false =>
        go_wp2_with fail
        go_meet
        exact ⟨by simp [isB, td], rfl⟩
    · have t1 : (ki == 12) = false := by simpa using hk
      have t2 : isB [12] ki = false := by simp [isB, hk]
      clear hk
      go_wp2_with fail
      go_meet
      exact ⟨by rw [t2]; rfl, rfl⟩
  case rest =>
  obtain ⟨rfl, rfl⟩ := hcut
  generalize (isB [12] ki && decide (onow < now)) = bc at hT1 ⊢
  cases bc with
  | true => as_aux_lemma =>
    obtain rfl : M = 6 := by rw [hT1.out]; rfl
    clear hT1
    go_wp2_with fail
    go_ret
    exact ⟨rfl, D4.out⟩
  | false =>
  go_wp2_with (first | refine wpList_load_mid rfl 37 (.tmp 2) rfl q 0 rfl cs _ L4.out.range Tryz.underlying37 rfl HS1.out ?_ | refine wpList_load_mid rfl 47 (.tmp 3) rfl (q + 1) 0 rfl xs _ X4.out.range Tryz.underlying47 rfl HS2.out ?_)
  refine (C6.out _ D4.out).mono ?_
  rintro e w5 ⟨rfl, hb⟩
  have D5 := Lib.hid (D4.out.trans (hb.mono D4.out.size))
  have L5 := Lib.hid (L4.out.later hb)
  have X5 := Lib.hid (X4.out.later hb)
  clear hb C6 D4 L4 X4
  cases b6 with
  | true => as_aux_lemma =>
    obtain rfl : M = 7 := by rw [hT1.out]; rfl
    clear hT1
    go_wp2_with fail
    go_ret
    exact ⟨rfl, D5.out⟩
  | false =>
  obtain rfl : M = b7 := by rw [hT1.out]; rfl
  clear hT1
  go_wp2_with (first | refine wpList_load_mid rfl 37 (.tmp 2) rfl q 0 rfl cs _ L5.out.range Tryz.underlying37 rfl HS1.out ?_ | refine wpList_load_mid rfl 47 (.tmp 3) rfl (q + 1) 0 rfl xs _ X5.out.range Tryz.underlying47 rfl HS2.out ?_)
  refine (C7.out (by first | trivial | rfl) _ D5.out).mono ?_
  rintro e w6 ⟨rfl, hb⟩
  have D6 := Lib.hid (D5.out.trans (hb.mono D5.out.size))
  clear hb C7 D5 L5 X5
  go_wp2_with fail
  go_ret
  exact ⟨rfl, D6.out⟩
end Go.Proofs.YtcomfhigbjkoeaaGreatDoor

namespace Go.Proofs.YtcomfhigbjkoeaaGreatDoor
open Go.RowKit

def zeroAuC : List Value := [.int .i64 0, .int .i64 0, .int .i64 0, .slice none 0 0, .int .i64 0, .slice none 0 0, .slice none 0 0]
/-- Where the copies of after lie. -/
def cpF (V : Option Addr) (vc a ac b bc : Nat) : Frm := ⟨V, vc, some ⟨a, 0, none⟩, ac, some ⟨b, 0, none⟩, bc⟩

structure AfO (w0 W : World) (q a ac b bc : Nat) (V : Option Addr) (vc : Nat) (s : Au) (op : MOp) (rp : MRp) : Prop where
  bw : Below w0.heap.size w0 W
  q0 : w0.heap.size ≤ q
  cs : Cells W q (auCells (cpF V vc a ac b bc) s)
  xs : Cells W (q + 1) (opCells op ++ rpCells rp)
  rs : Cells W (q + 1 + 1) zeroAuC
  oc : Cells W (q + 1 + 1 + 1) (opCells op)
  ss : Own seR 75 (q + 1 + 1 + 1 + 1) W (.slice (some ⟨a, 0, none⟩) s.seats.length ac) s.seats
  ws : Own intR 3 (q + 1 + 1 + 1 + 1) W (.slice (some ⟨b, 0, none⟩) s.waiting.length bc) s.waiting
  ab : a ≠ b
  vs : Sl secR w0 (.slice V s.ve.secs.length vc) s.ve.secs
  bv : Bd s.ve.shards ∧ Bd s.ve.ttl ∧ Bd s.ve.session
  bn : Bd s.now

theorem four_boxes {W : World} {q : Nat} (hq : W.heap.size = q) (c1 c2 c3 c4 : List Value) (t1 t2 t3 t4 : TypeId) :
    Below W.heap.size W ((((W.alloc (.cells c1.toArray t1)).alloc (.cells c2.toArray t2)).alloc (.cells c3.toArray t3)).alloc (.cells c4.toArray t4)) ∧
    Cells ((((W.alloc (.cells c1.toArray t1)).alloc (.cells c2.toArray t2)).alloc (.cells c3.toArray t3)).alloc (.cells c4.toArray t4)) q c1 ∧
    Cells ((((W.alloc (.cells c1.toArray t1)).alloc (.cells c2.toArray t2)).alloc (.cells c3.toArray t3)).alloc (.cells c4.toArray t4)) (q + 1) c2 ∧
    Cells ((((W.alloc (.cells c1.toArray t1)).alloc (.cells c2.toArray t2)).alloc (.cells c3.toArray t3)).alloc (.cells c4.toArray t4)) (q + 1 + 1) c3 ∧
    Cells ((((W.alloc (.cells c1.toArray t1)).alloc (.cells c2.toArray t2)).alloc (.cells c3.toArray t3)).alloc (.cells c4.toArray t4)) (q + 1 + 1 + 1) c4 :=
  ⟨bal (bal (bal (ba _ _))), (((Cells.newS _ _ _ _ hq.symm).alloc _).alloc _).alloc _, ((Cells.newS _ _ _ _ (by rw [World.size_alloc, hq])).alloc _).alloc _, (Cells.newS _ _ _ _ (by rw [World.size_alloc, World.size_alloc, hq])).alloc _, Cells.newS _ _ _ _ (by rw [World.size_alloc, World.size_alloc, World.size_alloc, hq])⟩

variable {w0 W W' : World} {q a ac b bc : Nat} {V : Option Addr} {vc : Nat} {s : Au} {op : MOp} {rp : MRp}

theorem AfO.ga (h : AfO w0 W q a ac b bc V vc s op rp) : q + 1 + 1 + 1 + 1 ≤ a ∧ a < W.heap.size := h.ss.lt a rfl
theorem AfO.gb (h : AfO w0 W q a ac b bc V vc s op rp) : q + 1 + 1 + 1 + 1 ≤ b ∧ b < W.heap.size := h.ws.lt b rfl
theorem AfO.up (h : AfO w0 W q a ac b bc V vc s op rp) (hb : Below W.heap.size W W') : AfO w0 W' q a ac b bc V vc s op rp :=
  ⟨h.bw.trans (hb.mono h.bw.size), h.q0, h.cs.later hb, h.xs.later hb, h.rs.later hb, h.oc.later hb, h.ss.up hb, h.ws.up hb, h.ab, h.vs, h.bv, h.bn⟩
theorem AfO.same {s' : Au} (h : AfO w0 W q a ac b bc V vc s op rp) (he : s = s') : AfO w0 W q a ac b bc V vc s' op rp := he ▸ h
theorem AfO.drewN (h : AfO w0 W q a ac b bc V vc s op rp) (n : Nat) : AfO w0 (W.drewN n) q a ac b bc V vc s op rp := h.up (bdN (Below.refl _ _) n)
theorem AfO.drew (h : AfO w0 W q a ac b bc V vc s op rp) : AfO w0 W.drew q a ac b bc V vc s op rp := h.up (bdd (Below.refl _ _))

/-- One field of a seat is written. -/
theorem AfO.putField (h : AfO w0 W q a ac b bc V vc s op rp) {k : Nat} (hk : k < s.seats.length) {j : Nat} (hj : j < 6) {u : Value} {x : Se} (hx : SeOk x) (he : (seCells s.seats[k]).set j u = seCells x) :
    AfO w0 (W.setCell ⟨a, k * 6 + j, none⟩ u) q a ac b bc V vc { s with seats := s.seats.set k x } op rp := by
  have hg := grownBy_set W a (k * 6 + j) u
  have hga := h.ga
  have hq0 := h.q0
  refine ⟨h.bw.grown hg h.bw.size (fun i hi => by injection hi with hi; omega), h.q0, ?_, h.xs.grown hg (fun e => by injection e with e; omega), h.rs.grown hg (fun e => by injection e with e; omega), h.oc.grown hg (fun e => by injection e with e; omega), ?_, ?_, h.ab, h.vs, h.bv, h.bn⟩
  · have := h.cs.grown hg (fun e => by injection e with e; omega)
    simp only [auCells, List.length_set] at this ⊢
    exact this
  · show Own seR _ _ _ (.slice _ (s.seats.set k x).length ac) (s.seats.set k x)
    rw [List.length_set]
    obtain ⟨cells, h1, h2⟩ := h.ss
    have h3 := (owns_putAt [u] (k * 6 + j) h1).1
    rw [setAll_one] at h3
    exact ⟨cells.set (k * 6 + j) u, by rw [List.length_set]; exact h3, many_setE hj hx (Rep.many_flat seR_flat h2) hk he⟩
  · exact h.ws.kept hg (fun i hi e => by cases hi; injection e with e; exact h.ab e) (fun _ _ h => h)

/-- One seat is written whole. -/
theorem AfO.putSeat (h : AfO w0 W q a ac b bc V vc s op rp) {k : Nat} (hk : k < s.seats.length) {x : Se} (hx : SeOk x) :
    AfO w0 (putAt W a (k * 6) (seCells x)) q a ac b bc V vc { s with seats := s.seats.set k x } op rp := by
  obtain ⟨h1, hg⟩ := h.ss.put hk (x := x) (cs := seCells x) ⟨rfl, hx⟩ (fun _ _ _ _ h => h)
  have hga := h.ga
  have hq0 := h.q0
  refine ⟨h.bw.grown hg h.bw.size (fun i hi => by injection hi with hi; omega), h.q0, ?_, h.xs.grown hg (fun e => by injection e with e; omega), h.rs.grown hg (fun e => by injection e with e; omega), h.oc.grown hg (fun e => by injection e with e; omega), ?_, ?_, h.ab, h.vs, h.bv, h.bn⟩
  · have := h.cs.grown hg (fun e => by injection e with e; omega)
    simp only [auCells, List.length_set] at this ⊢
    exact this
  · show Own seR _ _ _ (.slice _ (s.seats.set k x).length ac) (s.seats.set k x)
    rw [List.length_set]; exact h1
  · exact h.ws.kept hg (fun i hi e => by cases hi; injection e with e; exact h.ab e) (fun _ _ h => h)

/-- One number of waiters is written. -/
theorem AfO.putWait (h : AfO w0 W q a ac b bc V vc s op rp) {k : Nat} (hk : k < s.waiting.length) {x : Int} (hx : Bd x) :
    AfO w0 (W.setCell ⟨b, k, none⟩ (.int .i64 x)) q a ac b bc V vc { s with waiting := s.waiting.set k x } op rp := by
  obtain ⟨h1, hg⟩ := h.ws.putI hk hx
  have hgb := h.gb
  have hq0 := h.q0
  refine ⟨h.bw.grown hg h.bw.size (fun i hi => by injection hi with hi; omega), h.q0, ?_, h.xs.grown hg (fun e => by injection e with e; omega), h.rs.grown hg (fun e => by injection e with e; omega), h.oc.grown hg (fun e => by injection e with e; omega), ?_, ?_, h.ab, h.vs, h.bv, h.bn⟩
  · have := h.cs.grown hg (fun e => by injection e with e; omega)
    simp only [auCells, List.length_set] at this ⊢
    exact this
  · exact h.ss.kept hg (fun i hi e => by cases hi; injection e with e; exact h.ab e.symm) (fun _ _ h => h)
  · show Own intR _ _ _ (.slice _ (s.waiting.set k x).length bc) (s.waiting.set k x)
    rw [List.length_set]; exact h1

/-- The time is written. -/
theorem AfO.putNow (h : AfO w0 W q a ac b bc V vc s op rp) {n : Int} (hn : Bd n) : AfO w0 (W.setCell ⟨q, 4, none⟩ (.int .i64 n)) q a ac b bc V vc { s with now := n } op rp := by
  have hg := grownBy_set W q 4 (.int .i64 n)
  have hga := h.ga
  have hgb := h.gb
  have hq0 := h.q0
  refine ⟨h.bw.grown hg h.bw.size (fun i hi => by injection hi with hi; omega), h.q0, ?_, h.xs.grown hg (fun e => by injection e with e; omega), h.rs.grown hg (fun e => by injection e with e; omega), h.oc.grown hg (fun e => by injection e with e; omega),
    h.ss.kept hg (fun i hi e => by cases hi; injection e with e; dsimp only at e; omega) (fun _ _ h => h), h.ws.kept hg (fun i hi e => by cases hi; injection e with e; dsimp only at e; omega) (fun _ _ h => h), h.ab, h.vs, h.bv, hn⟩
  exact h.cs.set1

/-- What is handed back. -/
theorem AfO.out (h : AfO w0 W q a ac b bc V vc s op rp) : Below w0.heap.size w0 (putAt W (q + 1 + 1) 0 (auCells (cpF V vc a ac b bc) s)) ∧ Cells (putAt W (q + 1 + 1) 0 (auCells (cpF V vc a ac b bc) s)) (q + 1 + 1) (auCells (cpF V vc a ac b bc) s) ∧
    IsAu (putAt W (q + 1 + 1) 0 (auCells (cpF V vc a ac b bc) s)) (cpF V vc a ac b bc) s ∧ Own seR 75 w0.heap.size (putAt W (q + 1 + 1) 0 (auCells (cpF V vc a ac b bc) s)) (.slice (some ⟨a, 0, none⟩) s.seats.length ac) s.seats ∧
    Own intR 3 w0.heap.size (putAt W (q + 1 + 1) 0 (auCells (cpF V vc a ac b bc) s)) (.slice (some ⟨b, 0, none⟩) s.waiting.length bc) s.waiting := by
  obtain ⟨k3, hg⟩ := h.rs.put (auCells (cpF V vc a ac b bc) s) rfl
  have hga := h.ga
  have hgb := h.gb
  have hq0 := h.q0
  have hb := h.bw.grown hg h.bw.size (fun i hi => by injection hi with hi; omega)
  have o1 := h.ss.kept hg (fun i hi e => by cases hi; injection e with e; dsimp only at e; omega) (fun _ _ h => h)
  have o2 := h.ws.kept hg (fun i hi e => by cases hi; injection e with e; dsimp only at e; omega) (fun _ _ h => h)
  exact ⟨hb, k3, ⟨h.vs.up hb, o1.sl, o2.sl, h.bv, h.bn⟩, o1.mono (by omega), o2.mono (by omega)⟩

/-- What append made: a slice at the start of a block. -/
theorem own_app {α : Type} {R : Rep α} {e : TypeId} {B g g' : Nat} {w : World} {v : Value} {xs : List α} (h : Own R e B w v xs) (hv : v.ownBlock = some g ∨ v.ownBlock = some g') (hg : g ≤ g') : ∃ a ac, v = .slice (some ⟨a, 0, none⟩) xs.length ac ∧ g ≤ a := by
  obtain ⟨cells, ⟨_, h2⟩, _⟩ := h
  rcases h2 with ⟨h', _⟩ | ⟨a, cap', cur, h', _⟩
  · subst h'; rcases hv with hv | hv <;> cases hv
  · subst h'
    refine ⟨a, cap', rfl, ?_⟩
    rcases hv with hv | hv
    · injection hv with hv; dsimp only at hv; omega
    · injection hv with hv; dsimp only at hv; omega
end Go.Proofs.YtcomfhigbjkoeaaGreatDoor
