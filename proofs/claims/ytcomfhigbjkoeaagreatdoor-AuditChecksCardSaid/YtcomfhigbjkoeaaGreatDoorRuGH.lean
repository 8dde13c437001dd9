/-
  Walk of groundlingref32.after, some kinds of step. Conditions: as each theorem says.
-/
import Derived.Test.YtcomfhigbjkoeaaGreatDoorRuP
import Derived.BigRegion
import Derived.Deep.CutRange
namespace Go.Proofs.YtcomfhigbjkoeaaGreatDoor
open Go.RowKit


theorem AfO.hold3 {w0 W : World} {q a ac b bc : Nat} {V : Option Addr} {vc : Nat} {s : Au} {op : MOp} {rp : MRp} (R : AfO w0 W q a ac b bc V vc s op rp) {k : Nat} (hk : k < s.seats.length) {x : Se} {o t : Int} (hx : s.seats[k] = x) (ho : U32 o) (ht : Bd t) (hs : SeOk x) :
    AfO w0 (((W.setCell ⟨a, k * 6 + 1, none⟩ (.bool true)).setCell ⟨a, k * 6 + 2, none⟩ (.int .u32 o)).setCell ⟨a, k * 6 + 3, none⟩ (.int .i64 t)) q a ac b bc V vc { s with seats := s.seats.set k (holdS o t x) } op rp := by
  obtain ⟨so, he, ow, ti, se, ep⟩ := x
  obtain ⟨h1, h2, h3, h4⟩ := hs
  have R6 := R.putField hk (j := 1) (by omega) (u := .bool true) (x := ⟨so, true, ow, ti, se, ep⟩) ⟨h1, h2, h3, h4⟩ (by rw [hx]; rfl)
  have l1 : k < (s.seats.set k ⟨so, true, ow, ti, se, ep⟩).length := by simpa using hk
  have R7 := R6.putField (k := k) l1 (j := 2) (by omega) (u := .int .u32 o) (x := ⟨so, true, o, ti, se, ep⟩) ⟨ho, h2, h3, h4⟩
    (by show (seCells ((s.seats.set k ⟨so, true, ow, ti, se, ep⟩)[k]'l1)).set 2 _ = _; rw [List.getElem_set_self]; rfl)
  have l2 : k < ((s.seats.set k ⟨so, true, ow, ti, se, ep⟩).set k ⟨so, true, o, ti, se, ep⟩).length := by simpa using hk
  have R8 := R7.putField (k := k) l2 (j := 3) (by omega) (u := .int .i64 t) (x := ⟨so, true, o, t, se, ep⟩) ⟨ho, ht, h3, h4⟩
    (by show (seCells (((s.seats.set k ⟨so, true, ow, ti, se, ep⟩).set k ⟨so, true, o, ti, se, ep⟩)[k]'l2)).set 3 _ = _; rw [List.getElem_set_self]; rfl)
  dsimp only at R8
  rw [List.set_set, List.set_set] at R8
  exact R8
theorem seg_el {α : Type} (f : α → α) (l : List α) (k j : Nat) (h : k + j < l.length) (h2 : k + j < (modSeg f l k j).length) : (modSeg f l k j)[k + j] = l[k + j] := by
  have h1 := modSeg_at f l k j h
  rw [List.getElem?_eq_getElem h2] at h1
  exact Option.some.inj h1

set_option maxRecDepth 100000 in
set_option maxHeartbeats 16000000 in
theorem rafter2_any {W : World} {F : Frm} {s : Au} {op : MOp} {rp : MRp} (R : IsAu W F s) (ok : Aok s) (ho : OpOk op) (hr : RpOk rp) (hk : op.kind = 2) {k m : Nat} {sk : Int} (hs : seatA op = sk) (hf : (if op.kind = 3 then rp.seat else op.seat) = (k : Int)) (hm : (if op.kind = 3 then rp.n else 1) = (m : Int)) (hkm : k + m ≤ s.seats.length) (hsk : 0 ≤ sk) : Calls Tryz.prog 23 #[auV F s, stV op rp] W (fun e w' => ∃ F', e = .returned (auV F' (learnA s op rp)) ∧ IsAu w' F' (learnA s op rp) ∧ Below W.heap.size W w' ∧ StepOwn W F s F' (learnA s op rp) w') := by
  have hlen := ok.len
  have hwl : s.waiting.length ≤ 8 := by
    have h1 := ok.hw
    have h2 := (checkV_ok ok.hc).1.1
    omega
  have HR := Lib.hid R
  have HOR := Lib.hid (And.intro ho hr)
  have CS := Lib.hid (fun w => rspoken_any op w ho.2.2.2.2.2.2.2.1.1)
  unfold opV at CS
  have hL := Lib.hid (show learnA s op rp = { s with seats := modSeg (holdS op.owner rp.deadline) s.seats k m } by
    have h1 : firstA op rp = k := by
      simp only [hk] at hf
      simp [firstA, isB, hk] at hf ⊢
      omega
    have h2 : manyA op rp = m := by
      simp only [hk] at hm
      simp [manyA, isB, hk] at hm ⊢
      omega
    simp [learnA, isB, hk, h1, h2])
  have CC := Lib.hid (fun w => rchosen_any op rp w)
  rw [hf, hm] at CC
  obtain ⟨xs, hxs⟩ : ∃ xs, xs = opCells op ++ rpCells rp := ⟨_, rfl⟩
  have hst : stV op rp = .agg xs.toArray := by rw [hxs]; rfl
  rw [hst] at CC
  have HS2 := Lib.hid (show (Tryz.prog.info? 47).map (·.size) = some xs.length by rw [hxs]; show _ = some 21; kernel_rfl)
  have HXS := Lib.hid hxs
  clear hst hxs
  have hw1 : IntKind.i64.wrap ((k : Int) + (m : Int)) = (k : Int) + (m : Int) := IntWalk.i64_in _ (by omega)
  clear hf hm
  have hk2 : decide (sk < 0) = false := decide_eq_false (by omega)
  have HK := Lib.hid hk
  clear R ok ho hr hk
  unfold auV stV
  go_enter Tryz.func23, Tryz.ntmps23
  go_upto_region 2 with fail
  obtain ⟨q, hq⟩ : ∃ q, W.heap.size = q := ⟨_, rfl⟩
  rw [hq]
  refine at_world (fun w => Below W.heap.size W w ∧ Cells w q (auCells F s) ∧ Cells w (q + 1) (opCells op ++ rpCells rp) ∧ Cells w (q + 1 + 1) zeroAuC ∧ Cells w (q + 1 + 1 + 1) (opCells op))
    (four_boxes hq (auCells F s) (opCells op ++ rpCells rp) zeroAuC (opCells op) _ _ _ _) fun w1 ⟨hb1, k1, k2, k3, k4⟩ => ?_
  have D1 := Lib.hid hb1
  have L1 := Lib.hid k1
  have X1 := Lib.hid k2
  have Z1 := Lib.hid k3
  have O1 := Lib.hid k4
  have HQ := Lib.hid hq
  clear hb1 k1 k2 k3 k4 hq
  have c5 := L1.out.c 5 _ rfl
  have f5 := L1.out.f 5
  have y0 := L1.out.lt
  go_upto_region 3 with (at_builtin; go_loud (refine wpList_append_sl _ rfl (.tmp 14) (.tmp 16) 34 rfl seR (q + 1 + 1 + 1 + 1) 75 _ 32 Tryz.underlying34 infoE rfl (by decide) _ [] rfl (Own.empty _ _ _ (by have := O1.out.lt; omega)) _ s.seats rfl (HR.out.ss.up (bal D1.out)) (by simp; omega) (by decide) (by have := O1.out.lt; simp; omega) (fun w' _ cs y h => seR_flat _ _ _ _ h) ?_; intro v1 w2 hown1 hg1 hat1; have hb2 := (ba w1 (.cells #[] 75)).grown hg1 (ba w1 (.cells #[] 75)).size (fun j hj => by cases hj; exact Nat.le_refl _); obtain ⟨a, ac, rfl, ha⟩ := own_app hown1 hat1 (by simp); replace c5 := cell_later hb2 c5; replace f5 := (L1.out.later hb2).f 5; have y0' : q < w2.heap.size := Nat.lt_of_lt_of_le y0 hb2.size))
  have hga : q + 1 + 1 + 1 + 1 ≤ a := by have h1 := O1.out.lt; have h2 : w1.heap.size ≤ a := ha; omega
  have D2 := Lib.hid (D1.out.trans (hb2.mono D1.out.size))
  have hset := grownBy_set w2 q 5 (.slice (some ⟨a, 0, none⟩) s.seats.length ac)
  have hWq : W.heap.size ≤ q := by have := HQ.out; omega
  have hown2 := hown1
  simp only [List.nil_append] at hown2 ⊢
  refine at_world (fun w => Below W.heap.size W w ∧ Cells w q [.int .i64 s.ve.shards, .int .i64 s.ve.ttl, .int .i64 s.ve.session, .slice F.V s.ve.secs.length F.vc, .int .i64 s.now, .slice (some ⟨a, 0, none⟩) s.seats.length ac, .slice F.B s.waiting.length F.bc] ∧ Cells w (q + 1) (opCells op ++ rpCells rp) ∧ Cells w (q + 1 + 1) zeroAuC ∧ Cells w (q + 1 + 1 + 1) (opCells op) ∧ Own seR 75 (q + 1 + 1 + 1 + 1) w (.slice (some ⟨a, 0, none⟩) s.seats.length ac) s.seats)
    ⟨D2.out.grown hset D2.out.size (fun j hj => by injection hj with hj; omega), (L1.out.later hb2).set1, (X1.out.later hb2).grown hset (fun e => by injection e with e; omega), (Z1.out.later hb2).grown hset (fun e => by injection e with e; omega), (O1.out.later hb2).grown hset (fun e => by injection e with e; omega), hown2.kept hset (fun i hi e => by cases hi; injection e with e; dsimp only at e; omega) (fun _ _ h => h)⟩ fun w3 ⟨hb3, k1, k2, k3, k4, o1⟩ => ?_
  have D3 := Lib.hid hb3
  have L3 := Lib.hid k1
  have X3 := Lib.hid k2
  have Z3 := Lib.hid k3
  have O3 := Lib.hid k4
  have P3 := Lib.hid o1
  clear hb3 k1 k2 k3 k4 o1 hset hown1 hown2 hg1 hat1 ha hb2 c5 f5 y0 y0' D1 D2 L1 X1 Z1 O1
  have c6 := L3.out.c 6 _ rfl
  have f6 := L3.out.f 6
  have y0 := L3.out.lt
  go_upto_region 4 with (at_builtin; go_loud (refine wpList_append_sl _ rfl (.tmp 19) (.tmp 21) 35 rfl intR (q + 1 + 1 + 1 + 1) 3 _ 8 Tryz.underlying35 infoJ rfl (by decide) _ [] rfl (Own.empty _ _ _ (by have := O3.out.lt; omega)) _ s.waiting rfl (HR.out.ws.up (bal D3.out)) (by simp; omega) (by decide) (by have := O3.out.lt; simp; omega) (fun w' _ cs y h => intR_flat _ _ _ _ h) ?_; intro v1 w2 hown1 hg1 hat1; have hb2 := (ba w3 (.cells #[] 3)).grown hg1 (ba w3 (.cells #[] 3)).size (fun j hj => by cases hj; exact Nat.le_refl _); obtain ⟨b, bc, rfl, hb9⟩ := own_app hown1 hat1 (by simp); replace c6 := cell_later hb2 c6; replace f6 := (L3.out.later hb2).f 6; have y0' : q < w2.heap.size := Nat.lt_of_lt_of_le y0 hb2.size))
  have hab : a < b := by have h1 := (P3.out.lt a rfl).2; have h2 : w3.heap.size ≤ b := hb9; omega
  have hgb : q + 1 + 1 + 1 + 1 ≤ b := by omega
  have D4 := Lib.hid (D3.out.trans (hb2.mono D3.out.size))
  have hset := grownBy_set w2 q 6 (.slice (some ⟨b, 0, none⟩) s.waiting.length bc)
  have hown2 := hown1
  simp only [List.nil_append] at hown2 ⊢
  refine at_world (fun w => AfO W w q a ac b bc F.V F.vc s op rp)
    ⟨D4.out.grown hset D4.out.size (fun j hj => by injection hj with hj; omega), hWq, (L3.out.later hb2).set1, (X3.out.later hb2).grown hset (fun e => by injection e with e; omega), (Z3.out.later hb2).grown hset (fun e => by injection e with e; omega), (O3.out.later hb2).grown hset (fun e => by injection e with e; omega), (P3.out.up hb2).kept hset (fun i hi e => by cases hi; injection e with e; dsimp only at e; omega) (fun _ _ h => h),
      hown2.kept hset (fun i hi e => by cases hi; injection e with e; dsimp only at e; omega) (fun _ _ h => h), by omega, HR.out.vs, HR.out.bv, HR.out.bn⟩ fun w5 R5 => ?_
  have RR := Lib.hid R5
  clear R5 hset hown1 hown2 hg1 hat1 hb9 hb2 c6 f6 y0 y0' D3 D4 L3 X3 Z3 O3 P3 hga hgb hab hWq HQ
  have kk := RR.out.oc
  have o0 := kk.c 0 _ rfl
  have yo := kk.lt
  clear kk
  rw [HK.out] at o0
  have RX := Lib.hid RR.out.xs
  rw [← HXS.out] at RX
  go_wp2_with (refine wpList_load_mid rfl 47 (.tmp 3) rfl (q + 1) 0 rfl xs _ RX.out.range Tryz.underlying47 rfl HS2.out ?_)
  refine (CC.out _).mono ?_
  rintro e w6 ⟨rfl, hb6⟩
  have R6 := Lib.hid (RR.out.up hb6)
  clear hb6 CC RX o0 yo RR
  go_wp2_with fail
  go_loopw [8] (fun iv wr => ∃ j : Nat, j ≤ m ∧ iv = .int .i64 ((k + j : Nat) : Int) ∧ Hid (AfO W wr q a ac b bc F.V F.vc { s with seats := modSeg (holdS op.owner rp.deadline) s.seats k j } op rp)) (fun iv _ => k + m - (intOf iv).toNat)
  case atStart => exact ⟨0, by omega, by simp, Lib.hid (by rw [modSeg_zero]; exact R6.out)⟩
  case round =>
    obtain ⟨j, hj, rfl, RJ⟩ := hrel
    clear R6
    have hml : (modSeg (holdS op.owner rp.deadline) s.seats k j).length = s.seats.length := modSeg_len _ _ _ _ (by omega)
    by_cases hlt : j < m
    case neg => as_aux_lemma =>
      obtain rfl : j = m := by omega
      have hz : decide (((k + j : Nat) : Int) < (k : Int) + (j : Int)) = false := decide_eq_false (by omega)
      have RS := RJ.out
      clear RJ hml
      obtain ⟨s', hs'⟩ : ∃ s' : Au, s' = { s with seats := modSeg (holdS op.owner rp.deadline) s.seats k j } := ⟨_, rfl⟩
      rw [← hs'] at RS
      have HL2 := Lib.hid (hL.out.trans hs'.symm)
      clear hs' hL
      have RR := Lib.hid RS
      clear RS
      have kk := RR.out.oc
      have o0 := kk.c 0 _ rfl
      have o1 := kk.c 1 _ rfl
      have o2 := kk.c 2 _ rfl
      have o3 := kk.c 3 _ rfl
      have o4 := kk.c 4 _ rfl
      have o5 := kk.c 5 _ rfl
      have o6 := kk.c 6 _ rfl
      have o7 := kk.c 7 _ rfl
      have o8 := kk.c 8 _ rfl
      have o9 := kk.c 9 _ rfl
      have o10 := kk.c 10 _ rfl
      have o11 := kk.c 11 _ rfl
      have yo := kk.lt
      clear kk
      rw [HK.out] at o0
      have CS' := CS
      rw [hs, HK.out] at CS'
      go_wp2_with fail
      refine (CS'.out _).mono ?_
      rintro e w7 ⟨rfl, hb7⟩
      have R7 := Lib.hid (RR.out.up hb7)
      clear o0 o1 o2 o3 o4 o5 o6 o7 o8 o9 o10 o11 yo hb7 CS CS'
      have kk := R7.out.oc
      have o0 := kk.c 0 _ rfl
      have yo := kk.lt
      clear kk
      rw [HK.out] at o0
      have kk := R7.out.cs
      have c0 := kk.c 0 _ rfl
      have c1 := kk.c 1 _ rfl
      have c2 := kk.c 2 _ rfl
      have c3 := kk.c 3 _ rfl
      have c4 := kk.c 4 _ rfl
      have c5 := kk.c 5 _ rfl
      have c6 := kk.c 6 _ rfl
      have yc := kk.lt
      clear kk
      dsimp only [cpF] at c3 c5 c6
      have kk := R7.out.rs
      have d0 := kk.c 0 _ rfl
      have d1 := kk.c 1 _ rfl
      have d2 := kk.c 2 _ rfl
      have d3 := kk.c 3 _ rfl
      have d4 := kk.c 4 _ rfl
      have d5 := kk.c 5 _ rfl
      have d6 := kk.c 6 _ rfl
      have e0 := kk.f 0
      have e1 := kk.f 1
      have e2 := kk.f 2
      have e3 := kk.f 3
      have e4 := kk.f 4
      have e5 := kk.f 5
      have e6 := kk.f 6
      have yd := kk.lt
      clear kk
      go_wp2_with fail
      refine at_world (fun w => Below W.heap.size W w ∧ Cells w (q + 1 + 1) (auCells (cpF F.V F.vc a ac b bc) s') ∧ IsAu w (cpF F.V F.vc a ac b bc) s' ∧ Own seR 75 W.heap.size w (.slice (some ⟨a, 0, none⟩) (s').seats.length ac) (s').seats ∧ Own intR 3 W.heap.size w (.slice (some ⟨b, 0, none⟩) (s').waiting.length bc) (s').waiting) R7.out.out fun w9 ⟨hb9, k9, is9, p9, o9⟩ => ?_
      have g0 := k9.c 0 _ rfl
      have g1 := k9.c 1 _ rfl
      have g2 := k9.c 2 _ rfl
      have g3 := k9.c 3 _ rfl
      have g4 := k9.c 4 _ rfl
      have g5 := k9.c 5 _ rfl
      have g6 := k9.c 6 _ rfl
      dsimp only [cpF] at g3 g5 g6
      rw [HL2.out]
      exact bodyPost_ret (v := auV (cpF F.V F.vc a ac b bc) s') (by simp [results, Tryz.results23, go_sem, g0, g1, g2, g3, g4, g5, g6, auV, cpF]) rfl ⟨_, rfl, is9, hb9, .inr ⟨rfl, rfl, by first | rfl | (rw [← HL2.out]; exact learn_ve s op rp), p9, o9⟩⟩
    as_aux_lemma =>
      have hz : decide (((k + j : Nat) : Int) < (k : Int) + (m : Int)) = true := decide_eq_true (by omega)
      have hlk : k + j < s.seats.length := by omega
      have hlj : k + j < (modSeg (holdS op.owner rp.deadline) s.seats k j).length := by omega
      have hel := seg_el (holdS op.owner rp.deadline) s.seats k j hlk hlj
      have hnx := modSeg_next (holdS op.owner rp.deadline) s.seats k j hlk
      obtain ⟨sc, ⟨rfl, hz9⟩, hcs, fd⟩ := RJ.out.ss.cell_ hlj
      have HSO := Lib.hid (show SeOk s.seats[k + j] by rw [← hel]; exact hz9)
      have m1 := hcs 1 _ rfl
      have m2 := hcs 2 _ rfl
      have m3 := hcs 3 _ rfl
      simp only [seR, hel] at m1 m2 m3
      have f1 := fd ((k + j) * 6 + 1)
      have f2 := fd ((k + j) * 6 + 2)
      have f3 := fd ((k + j) * 6 + 3)
      have kk := RJ.out.oc
      have o1 := kk.c 1 _ rfl
      have yo := kk.lt
      clear kk
      have kk := RJ.out.cs
      have c5 := kk.c 5 _ rfl
      have yc := kk.lt
      clear kk
      dsimp only [cpF] at c5
      have kk := RJ.out.xs
      have x15 := kk.c 15 _ rfl
      have yx := kk.lt
      clear kk
      rw [hml] at c5
      have ya := RJ.out.ga.2
      have yn1 : ¬ q = a := by have := RJ.out.ga.1; omega
      have yn2 : ¬ q + 1 = a := by have := RJ.out.ga.1; omega
      have yn3 : ¬ q + 1 + 1 + 1 = a := by have := RJ.out.ga.1; omega
      have HR3 := Lib.hid (RJ.out.hold3 hlj (o := op.owner) (t := rp.deadline) hel HOR.out.1.2.1 HOR.out.2.2.2.2.1 HSO.out)
      have HNX := Lib.hid hnx
      clear hnx hel hz9
      generalize s.seats[k + j] = sx at m1 m2 m3 HSO HR3 HNX
      obtain ⟨i, hi⟩ : ∃ i, i = k + j := ⟨_, rfl⟩
      have hi0 : (0 : Int) ≤ (i : Int) := by omega
      have hi1 : (i : Int) < (s.seats.length : Int) := by omega
      have HI := Lib.hid hi
      rw [← hi] at hz m1 m2 m3 f1 f2 f3 HR3 HNX ⊢
      clear hcs fd hml hlk hlj hi
      go_upto_region 11 with fail
      go_big_region
      all_goals
        clear m1 m2 m3 f1 f2 f3 o1 yo c5 yc x15 yx ya hz yn1 yn2 yn3
        go_wp2_with fail
        go_roundw
        case rel =>
          refine ⟨j + 1, by omega, by have := HI.out; go_num, Lib.hid ?_⟩
          have h := HR3.out
          have hx := HNX.out
          dsimp only at h
          rw [hx]
          exact h.drew
        case measure => have := HI.out; simp [intOf]; omega

set_option maxRecDepth 100000 in
set_option maxHeartbeats 16000000 in
theorem rafter3_any {W : World} {F : Frm} {s : Au} {op : MOp} {rp : MRp} (R : IsAu W F s) (ok : Aok s) (ho : OpOk op) (hr : RpOk rp) (hk : op.kind = 3) {k m : Nat} {sk : Int} (hs : seatA op = sk) (hf : (if op.kind = 3 then rp.seat else op.seat) = (k : Int)) (hm : (if op.kind = 3 then rp.n else 1) = (m : Int)) (hkm : k + m ≤ s.seats.length) (hsk : sk = -1) : Calls Tryz.prog 23 #[auV F s, stV op rp] W (fun e w' => ∃ F', e = .returned (auV F' (learnA s op rp)) ∧ IsAu w' F' (learnA s op rp) ∧ Below W.heap.size W w' ∧ StepOwn W F s F' (learnA s op rp) w') := by
  have hlen := ok.len
  have hwl : s.waiting.length ≤ 8 := by
    have h1 := ok.hw
    have h2 := (checkV_ok ok.hc).1.1
    omega
  have HR := Lib.hid R
  have HOR := Lib.hid (And.intro ho hr)
  have CS := Lib.hid (fun w => rspoken_any op w ho.2.2.2.2.2.2.2.1.1)
  unfold opV at CS
  have hL := Lib.hid (show learnA s op rp = { s with seats := modSeg (holdS op.owner rp.deadline) s.seats k m } by
    have h1 : firstA op rp = k := by
      simp only [hk] at hf
      simp [firstA, isB, hk] at hf ⊢
      omega
    have h2 : manyA op rp = m := by
      simp only [hk] at hm
      simp [manyA, isB, hk] at hm ⊢
      omega
    simp [learnA, isB, hk, h1, h2])
  have CC := Lib.hid (fun w => rchosen_any op rp w)
  rw [hf, hm] at CC
  obtain ⟨xs, hxs⟩ : ∃ xs, xs = opCells op ++ rpCells rp := ⟨_, rfl⟩
  have hst : stV op rp = .agg xs.toArray := by rw [hxs]; rfl
  rw [hst] at CC
  have HS2 := Lib.hid (show (Tryz.prog.info? 47).map (·.size) = some xs.length by rw [hxs]; show _ = some 21; kernel_rfl)
  have HXS := Lib.hid hxs
  clear hst hxs
  have hw1 : IntKind.i64.wrap ((k : Int) + (m : Int)) = (k : Int) + (m : Int) := IntWalk.i64_in _ (by omega)
  clear hf hm
  subst hsk
  have HK := Lib.hid hk
  clear R ok ho hr hk
  unfold auV stV
  go_enter Tryz.func23, Tryz.ntmps23
  go_upto_region 2 with fail
  obtain ⟨q, hq⟩ : ∃ q, W.heap.size = q := ⟨_, rfl⟩
  rw [hq]
  refine at_world (fun w => Below W.heap.size W w ∧ Cells w q (auCells F s) ∧ Cells w (q + 1) (opCells op ++ rpCells rp) ∧ Cells w (q + 1 + 1) zeroAuC ∧ Cells w (q + 1 + 1 + 1) (opCells op))
    (four_boxes hq (auCells F s) (opCells op ++ rpCells rp) zeroAuC (opCells op) _ _ _ _) fun w1 ⟨hb1, k1, k2, k3, k4⟩ => ?_
  have D1 := Lib.hid hb1
  have L1 := Lib.hid k1
  have X1 := Lib.hid k2
  have Z1 := Lib.hid k3
  have O1 := Lib.hid k4
  have HQ := Lib.hid hq
  clear hb1 k1 k2 k3 k4 hq
  have c5 := L1.out.c 5 _ rfl
  have f5 := L1.out.f 5
  have y0 := L1.out.lt
  go_upto_region 3 with (at_builtin; go_loud (refine wpList_append_sl _ rfl (.tmp 14) (.tmp 16) 34 rfl seR (q + 1 + 1 + 1 + 1) 75 _ 32 Tryz.underlying34 infoE rfl (by decide) _ [] rfl (Own.empty _ _ _ (by have := O1.out.lt; omega)) _ s.seats rfl (HR.out.ss.up (bal D1.out)) (by simp; omega) (by decide) (by have := O1.out.lt; simp; omega) (fun w' _ cs y h => seR_flat _ _ _ _ h) ?_; intro v1 w2 hown1 hg1 hat1; have hb2 := (ba w1 (.cells #[] 75)).grown hg1 (ba w1 (.cells #[] 75)).size (fun j hj => by cases hj; exact Nat.le_refl _); obtain ⟨a, ac, rfl, ha⟩ := own_app hown1 hat1 (by simp); replace c5 := cell_later hb2 c5; replace f5 := (L1.out.later hb2).f 5; have y0' : q < w2.heap.size := Nat.lt_of_lt_of_le y0 hb2.size))
  have hga : q + 1 + 1 + 1 + 1 ≤ a := by have h1 := O1.out.lt; have h2 : w1.heap.size ≤ a := ha; omega
  have D2 := Lib.hid (D1.out.trans (hb2.mono D1.out.size))
  have hset := grownBy_set w2 q 5 (.slice (some ⟨a, 0, none⟩) s.seats.length ac)
  have hWq : W.heap.size ≤ q := by have := HQ.out; omega
  have hown2 := hown1
  simp only [List.nil_append] at hown2 ⊢
  refine at_world (fun w => Below W.heap.size W w ∧ Cells w q [.int .i64 s.ve.shards, .int .i64 s.ve.ttl, .int .i64 s.ve.session, .slice F.V s.ve.secs.length F.vc, .int .i64 s.now, .slice (some ⟨a, 0, none⟩) s.seats.length ac, .slice F.B s.waiting.length F.bc] ∧ Cells w (q + 1) (opCells op ++ rpCells rp) ∧ Cells w (q + 1 + 1) zeroAuC ∧ Cells w (q + 1 + 1 + 1) (opCells op) ∧ Own seR 75 (q + 1 + 1 + 1 + 1) w (.slice (some ⟨a, 0, none⟩) s.seats.length ac) s.seats)
    ⟨D2.out.grown hset D2.out.size (fun j hj => by injection hj with hj; omega), (L1.out.later hb2).set1, (X1.out.later hb2).grown hset (fun e => by injection e with e; omega), (Z1.out.later hb2).grown hset (fun e => by injection e with e; omega), (O1.out.later hb2).grown hset (fun e => by injection e with e; omega), hown2.kept hset (fun i hi e => by cases hi; injection e with e; dsimp only at e; omega) (fun _ _ h => h)⟩ fun w3 ⟨hb3, k1, k2, k3, k4, o1⟩ => ?_
  have D3 := Lib.hid hb3
  have L3 := Lib.hid k1
  have X3 := Lib.hid k2
  have Z3 := Lib.hid k3
  have O3 := Lib.hid k4
  have P3 := Lib.hid o1
  clear hb3 k1 k2 k3 k4 o1 hset hown1 hown2 hg1 hat1 ha hb2 c5 f5 y0 y0' D1 D2 L1 X1 Z1 O1
  have c6 := L3.out.c 6 _ rfl
  have f6 := L3.out.f 6
  have y0 := L3.out.lt
  go_upto_region 4 with (at_builtin; go_loud (refine wpList_append_sl _ rfl (.tmp 19) (.tmp 21) 35 rfl intR (q + 1 + 1 + 1 + 1) 3 _ 8 Tryz.underlying35 infoJ rfl (by decide) _ [] rfl (Own.empty _ _ _ (by have := O3.out.lt; omega)) _ s.waiting rfl (HR.out.ws.up (bal D3.out)) (by simp; omega) (by decide) (by have := O3.out.lt; simp; omega) (fun w' _ cs y h => intR_flat _ _ _ _ h) ?_; intro v1 w2 hown1 hg1 hat1; have hb2 := (ba w3 (.cells #[] 3)).grown hg1 (ba w3 (.cells #[] 3)).size (fun j hj => by cases hj; exact Nat.le_refl _); obtain ⟨b, bc, rfl, hb9⟩ := own_app hown1 hat1 (by simp); replace c6 := cell_later hb2 c6; replace f6 := (L3.out.later hb2).f 6; have y0' : q < w2.heap.size := Nat.lt_of_lt_of_le y0 hb2.size))
  have hab : a < b := by have h1 := (P3.out.lt a rfl).2; have h2 : w3.heap.size ≤ b := hb9; omega
  have hgb : q + 1 + 1 + 1 + 1 ≤ b := by omega
  have D4 := Lib.hid (D3.out.trans (hb2.mono D3.out.size))
  have hset := grownBy_set w2 q 6 (.slice (some ⟨b, 0, none⟩) s.waiting.length bc)
  have hown2 := hown1
  simp only [List.nil_append] at hown2 ⊢
  refine at_world (fun w => AfO W w q a ac b bc F.V F.vc s op rp)
    ⟨D4.out.grown hset D4.out.size (fun j hj => by injection hj with hj; omega), hWq, (L3.out.later hb2).set1, (X3.out.later hb2).grown hset (fun e => by injection e with e; omega), (Z3.out.later hb2).grown hset (fun e => by injection e with e; omega), (O3.out.later hb2).grown hset (fun e => by injection e with e; omega), (P3.out.up hb2).kept hset (fun i hi e => by cases hi; injection e with e; dsimp only at e; omega) (fun _ _ h => h),
      hown2.kept hset (fun i hi e => by cases hi; injection e with e; dsimp only at e; omega) (fun _ _ h => h), by omega, HR.out.vs, HR.out.bv, HR.out.bn⟩ fun w5 R5 => ?_
  have RR := Lib.hid R5
  clear R5 hset hown1 hown2 hg1 hat1 hb9 hb2 c6 f6 y0 y0' D3 D4 L3 X3 Z3 O3 P3 hga hgb hab hWq HQ
  have kk := RR.out.oc
  have o0 := kk.c 0 _ rfl
  have yo := kk.lt
  clear kk
  rw [HK.out] at o0
  have RX := Lib.hid RR.out.xs
  rw [← HXS.out] at RX
  go_wp2_with (refine wpList_load_mid rfl 47 (.tmp 3) rfl (q + 1) 0 rfl xs _ RX.out.range Tryz.underlying47 rfl HS2.out ?_)
  refine (CC.out _).mono ?_
  rintro e w6 ⟨rfl, hb6⟩
  have R6 := Lib.hid (RR.out.up hb6)
  clear hb6 CC RX o0 yo RR
  go_wp2_with fail
  go_loopw [8] (fun iv wr => ∃ j : Nat, j ≤ m ∧ iv = .int .i64 ((k + j : Nat) : Int) ∧ Hid (AfO W wr q a ac b bc F.V F.vc { s with seats := modSeg (holdS op.owner rp.deadline) s.seats k j } op rp)) (fun iv _ => k + m - (intOf iv).toNat)
  case atStart => exact ⟨0, by omega, by simp, Lib.hid (by rw [modSeg_zero]; exact R6.out)⟩
  case round =>
    obtain ⟨j, hj, rfl, RJ⟩ := hrel
    clear R6
    have hml : (modSeg (holdS op.owner rp.deadline) s.seats k j).length = s.seats.length := modSeg_len _ _ _ _ (by omega)
    by_cases hlt : j < m
    case neg => as_aux_lemma =>
      obtain rfl : j = m := by omega
      have hz : decide (((k + j : Nat) : Int) < (k : Int) + (j : Int)) = false := decide_eq_false (by omega)
      have RS := RJ.out
      clear RJ hml
      obtain ⟨s', hs'⟩ : ∃ s' : Au, s' = { s with seats := modSeg (holdS op.owner rp.deadline) s.seats k j } := ⟨_, rfl⟩
      rw [← hs'] at RS
      have HL2 := Lib.hid (hL.out.trans hs'.symm)
      clear hs' hL
      have RR := Lib.hid RS
      clear RS
      have kk := RR.out.oc
      have o0 := kk.c 0 _ rfl
      have o1 := kk.c 1 _ rfl
      have o2 := kk.c 2 _ rfl
      have o3 := kk.c 3 _ rfl
      have o4 := kk.c 4 _ rfl
      have o5 := kk.c 5 _ rfl
      have o6 := kk.c 6 _ rfl
      have o7 := kk.c 7 _ rfl
      have o8 := kk.c 8 _ rfl
      have o9 := kk.c 9 _ rfl
      have o10 := kk.c 10 _ rfl
      have o11 := kk.c 11 _ rfl
      have yo := kk.lt
      clear kk
      rw [HK.out] at o0
      have CS' := CS
      rw [hs, HK.out] at CS'
      go_wp2_with fail
      refine (CS'.out _).mono ?_
      rintro e w7 ⟨rfl, hb7⟩
      have R7 := Lib.hid (RR.out.up hb7)
      clear o0 o1 o2 o3 o4 o5 o6 o7 o8 o9 o10 o11 yo hb7 CS CS'
      have kk := R7.out.oc
      have o0 := kk.c 0 _ rfl
      have yo := kk.lt
      clear kk
      rw [HK.out] at o0
      have kk := R7.out.cs
      have c0 := kk.c 0 _ rfl
      have c1 := kk.c 1 _ rfl
      have c2 := kk.c 2 _ rfl
      have c3 := kk.c 3 _ rfl
      have c4 := kk.c 4 _ rfl
      have c5 := kk.c 5 _ rfl
      have c6 := kk.c 6 _ rfl
      have yc := kk.lt
      clear kk
      dsimp only [cpF] at c3 c5 c6
      have kk := R7.out.rs
      have d0 := kk.c 0 _ rfl
      have d1 := kk.c 1 _ rfl
      have d2 := kk.c 2 _ rfl
      have d3 := kk.c 3 _ rfl
      have d4 := kk.c 4 _ rfl
      have d5 := kk.c 5 _ rfl
      have d6 := kk.c 6 _ rfl
      have e0 := kk.f 0
      have e1 := kk.f 1
      have e2 := kk.f 2
      have e3 := kk.f 3
      have e4 := kk.f 4
      have e5 := kk.f 5
      have e6 := kk.f 6
      have yd := kk.lt
      clear kk
      go_wp2_with fail
      refine at_world (fun w => Below W.heap.size W w ∧ Cells w (q + 1 + 1) (auCells (cpF F.V F.vc a ac b bc) s') ∧ IsAu w (cpF F.V F.vc a ac b bc) s' ∧ Own seR 75 W.heap.size w (.slice (some ⟨a, 0, none⟩) (s').seats.length ac) (s').seats ∧ Own intR 3 W.heap.size w (.slice (some ⟨b, 0, none⟩) (s').waiting.length bc) (s').waiting) R7.out.out fun w9 ⟨hb9, k9, is9, p9, o9⟩ => ?_
      have g0 := k9.c 0 _ rfl
      have g1 := k9.c 1 _ rfl
      have g2 := k9.c 2 _ rfl
      have g3 := k9.c 3 _ rfl
      have g4 := k9.c 4 _ rfl
      have g5 := k9.c 5 _ rfl
      have g6 := k9.c 6 _ rfl
      dsimp only [cpF] at g3 g5 g6
      rw [HL2.out]
      exact bodyPost_ret (v := auV (cpF F.V F.vc a ac b bc) s') (by simp [results, Tryz.results23, go_sem, g0, g1, g2, g3, g4, g5, g6, auV, cpF]) rfl ⟨_, rfl, is9, hb9, .inr ⟨rfl, rfl, by first | rfl | (rw [← HL2.out]; exact learn_ve s op rp), p9, o9⟩⟩
    as_aux_lemma =>
      have hz : decide (((k + j : Nat) : Int) < (k : Int) + (m : Int)) = true := decide_eq_true (by omega)
      have hlk : k + j < s.seats.length := by omega
      have hlj : k + j < (modSeg (holdS op.owner rp.deadline) s.seats k j).length := by omega
      have hel := seg_el (holdS op.owner rp.deadline) s.seats k j hlk hlj
      have hnx := modSeg_next (holdS op.owner rp.deadline) s.seats k j hlk
      obtain ⟨sc, ⟨rfl, hz9⟩, hcs, fd⟩ := RJ.out.ss.cell_ hlj
      have HSO := Lib.hid (show SeOk s.seats[k + j] by rw [← hel]; exact hz9)
      have m1 := hcs 1 _ rfl
      have m2 := hcs 2 _ rfl
      have m3 := hcs 3 _ rfl
      simp only [seR, hel] at m1 m2 m3
      have f1 := fd ((k + j) * 6 + 1)
      have f2 := fd ((k + j) * 6 + 2)
      have f3 := fd ((k + j) * 6 + 3)
      have kk := RJ.out.oc
      have o1 := kk.c 1 _ rfl
      have yo := kk.lt
      clear kk
      have kk := RJ.out.cs
      have c5 := kk.c 5 _ rfl
      have yc := kk.lt
      clear kk
      dsimp only [cpF] at c5
      have kk := RJ.out.xs
      have x15 := kk.c 15 _ rfl
      have yx := kk.lt
      clear kk
      rw [hml] at c5
      have ya := RJ.out.ga.2
      have yn1 : ¬ q = a := by have := RJ.out.ga.1; omega
      have yn2 : ¬ q + 1 = a := by have := RJ.out.ga.1; omega
      have yn3 : ¬ q + 1 + 1 + 1 = a := by have := RJ.out.ga.1; omega
      have HR3 := Lib.hid (RJ.out.hold3 hlj (o := op.owner) (t := rp.deadline) hel HOR.out.1.2.1 HOR.out.2.2.2.2.1 HSO.out)
      have HNX := Lib.hid hnx
      clear hnx hel hz9
      generalize s.seats[k + j] = sx at m1 m2 m3 HSO HR3 HNX
      obtain ⟨i, hi⟩ : ∃ i, i = k + j := ⟨_, rfl⟩
      have hi0 : (0 : Int) ≤ (i : Int) := by omega
      have hi1 : (i : Int) < (s.seats.length : Int) := by omega
      have HI := Lib.hid hi
      rw [← hi] at hz m1 m2 m3 f1 f2 f3 HR3 HNX ⊢
      clear hcs fd hml hlk hlj hi
      go_upto_region 11 with fail
      go_big_region
      all_goals
        clear m1 m2 m3 f1 f2 f3 o1 yo c5 yc x15 yx ya hz yn1 yn2 yn3
        go_wp2_with fail
        go_roundw
        case rel =>
          refine ⟨j + 1, by omega, by have := HI.out; go_num, Lib.hid ?_⟩
          have h := HR3.out
          have hx := HNX.out
          dsimp only at h
          rw [hx]
          exact h.drew
        case measure => have := HI.out; simp [intOf]; omega

end Go.Proofs.YtcomfhigbjkoeaaGreatDoor
