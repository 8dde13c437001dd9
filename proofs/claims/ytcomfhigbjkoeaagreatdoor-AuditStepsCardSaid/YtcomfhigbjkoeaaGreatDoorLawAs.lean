/-
  Walks of groundlinglaw32.large and groundlinglaw32.AuditSteps. Conditions: as each theorem says.
-/
import Derived.Test.YtcomfhigbjkoeaaGreatDoorRuH
import Derived.Test.YtcomfhigbjkoeaaGreatDoorRuM
import Derived.Test.YtcomfhigbjkoeaaGreatDoorSmM
import Derived.Test.YtcomfhigbjkoeaaGreatDoorLibT
namespace Go.Proofs.YtcomfhigbjkoeaaGreatDoor
open Go.RowKit

theorem two_boxes {W : World} {q : Nat} (hq : W.heap.size = q) (c1 c2 : List Value) (t1 t2 : TypeId) :
    Below W.heap.size W ((W.alloc (.cells c1.toArray t1)).alloc (.cells c2.toArray t2)) ∧ Cells ((W.alloc (.cells c1.toArray t1)).alloc (.cells c2.toArray t2)) q c1 ∧ Cells ((W.alloc (.cells c1.toArray t1)).alloc (.cells c2.toArray t2)) (q + 1) c2 :=
  ⟨bal (ba _ _), (Cells.newS _ _ _ _ hq.symm).alloc _, Cells.newS _ _ _ _ (by rw [World.size_alloc, hq])⟩

set_option maxRecDepth 20000 in
set_option maxHeartbeats 4000000 in
theorem large_any {W : World} {F : Frm} {s : Au} (R : IsAu W F s) : Calls Tryz.prog 10 #[auV F s] W (FarPost W) := by
  have CF := Lib.hid (fun w (hb : Below W.heap.size W w) => far_any (x := s.ve) (R.vs.up hb))
  clear R
  unfold FarPost at CF ⊢
  unfold auV
  go_enter Tryz.func10, Tryz.ntmps10
  go_upto_region 1 with fail
  refine at_world (fun w => Below W.heap.size W w ∧ Cells w W.heap.size [.int .i64 s.ve.shards, .int .i64 s.ve.ttl, .int .i64 s.ve.session, .slice F.V s.ve.secs.length F.vc, .int .i64 s.now, .slice F.A s.seats.length F.ac, .slice F.B s.waiting.length F.bc]) ⟨ba _ _, Cells.newS _ _ _ _ rfl⟩ fun w0 ⟨hb0, k1⟩ => ?_
  have D0 := Lib.hid hb0
  have L0 := Lib.hid k1
  clear hb0 k1
  have kk := L0.out
  have c0 := kk.c 0 _ rfl
  have c1 := kk.c 1 _ rfl
  have c2 := kk.c 2 _ rfl
  have c3 := kk.c 3 _ rfl
  have y0 := kk.lt
  clear kk
  go_wp2_with fail
  refine (CF.out _ D0.out).mono ?_
  rintro e w1 ⟨b, rfl, hb⟩
  have D1 := Lib.hid (D0.out.trans (hb.mono D0.out.size))
  have L1 := Lib.hid (L0.out.later hb)
  clear hb CF c0 c1 c2 c3 y0
  have kk := L1.out
  have c5 := kk.c 5 _ rfl
  have c6 := kk.c 6 _ rfl
  have y0 := kk.lt
  clear kk
  cases b with
  | true =>
    go_wp2_with fail
    go_ret
    exact ⟨_, rfl, D1.out⟩
  | false =>
    by_cases h1 : 300 < s.seats.length
    · have t1 : decide ((300 : Int) < (s.seats.length : Int)) = true := decide_eq_true (by omega)
      clear h1
      go_wp2_with fail
      go_ret
      exact ⟨_, rfl, D1.out⟩
    · have t1 : decide ((300 : Int) < (s.seats.length : Int)) = false := decide_eq_false (by omega)
      clear h1
      by_cases h2 : 300 < s.waiting.length
      · have t2 : decide ((300 : Int) < (s.waiting.length : Int)) = true := decide_eq_true (by omega)
        clear h2
        go_wp2_with fail
        go_ret
        exact ⟨_, rfl, D1.out⟩
      · have t2 : decide ((300 : Int) < (s.waiting.length : Int)) = false := decide_eq_false (by omega)
        clear h2
        go_wp2_with fail
        go_ret
        exact ⟨_, rfl, D1.out⟩

set_option maxRecDepth 100000 in
set_option maxHeartbeats 16000000 in
theorem lawSteps_any {W : World} {F : Frm} {s : Au} {op : MOp} {rp : MRp} (R : IsAu W F s) (ho : OpOk op) (hr : RpOk rp) : Calls Tryz.prog 4 #[auV F s, stV op rp] W fun e w' => e = .returned (.bool true) ∧ Below W.heap.size W w' := by
  have CL := Lib.hid (fun w (hb : Below W.heap.size W w) => large_any (R.up hb))
  have CW := Lib.hid (fun w => awake_any w)
  have C1 := Lib.hid (fun w (hb : Below W.heap.size W w) => auStep_any (R.up hb) ho hr)
  have C2 := Lib.hid (fun w (hb : Below W.heap.size W w) => rstep_any (R.up hb) ho hr)
  have C3 := Lib.hid (fun w (hb : Below W.heap.size W w) => (new2_any (x := s.ve) (R.vs.up hb) R.bv.1 R.bv.2.1 R.bv.2.2).mono fun _ _ h => h.is (R.vs.up hb) R.bv.1 R.bv.2.1 R.bv.2.2)
  have C4 := Lib.hid (fun w (hb : Below W.heap.size W w) => (rnew_any (x := s.ve) (R.vs.up hb)).mono fun _ _ h => h.is (R.vs.up hb) R.bv.1 R.bv.2.1 R.bv.2.2)
  have C5 := Lib.hid (fun w (hb : Below W.heap.size W w) => good_any (R.up hb))
  have C6 := Lib.hid (fun w (hb : Below W.heap.size W w) => rgood_any (R.up hb))
  unfold FarPost at CL
  unfold StepPost at C1 C2
  generalize stepA s op rp = T at C1 C2
  generalize newA s.ve = N at C3 C4
  generalize goodA s = G at C5 C6
  obtain ⟨rule, er, s'⟩ := T
  obtain ⟨sn, en⟩ := N
  simp only at C1 C2 C3 C4
  obtain ⟨sv, hsv⟩ : ∃ sv, auV F s = sv := ⟨_, rfl⟩
  obtain ⟨xv, hxv⟩ : ∃ xv, stV op rp = xv := ⟨_, rfl⟩
  rw [hsv] at CL C1 C2
  rw [hxv] at C1 C2
  unfold auV at C5 C6
  obtain ⟨cs, hcs⟩ : ∃ cs : List Value, cs = [.int .i64 s.ve.shards, .int .i64 s.ve.ttl, .int .i64 s.ve.session, .slice F.V s.ve.secs.length F.vc, .int .i64 s.now, .slice F.A s.seats.length F.ac, .slice F.B s.waiting.length F.bc] := ⟨_, rfl⟩
  obtain ⟨xs, hxs⟩ : ∃ xs : List Value, xs = opCells op ++ rpCells rp := ⟨_, rfl⟩
  have hcs2 : sv = .agg cs.toArray := by rw [hcs]; exact hsv.symm
  have hxs2 : xv = .agg xs.toArray := by rw [hxs]; exact hxv.symm
  have HS1 := Lib.hid (show (Tryz.prog.info? 37).map (·.size) = some cs.length by rw [hcs]; kernel_rfl)
  have HS2 := Lib.hid (show (Tryz.prog.info? 47).map (·.size) = some xs.length by rw [hxs]; show _ = some 21; kernel_rfl)
  have HCS := Lib.hid hcs
  have HXS := Lib.hid hxs
  clear hsv hxv
  subst hcs2 hxs2
  clear R ho hr
  unfold auV stV
  go_enter Tryz.func4, Tryz.ntmps4
  go_upto_region 1 with fail
  obtain ⟨q, hq⟩ : ∃ q, W.heap.size = q := ⟨_, rfl⟩
  rw [hq]
  refine at_world (fun w => Below W.heap.size W w ∧ Cells w q cs ∧ Cells w (q + 1) xs) (by rw [hcs, hxs]; exact two_boxes hq [.int .i64 s.ve.shards, .int .i64 s.ve.ttl, .int .i64 s.ve.session, .slice F.V s.ve.secs.length F.vc, .int .i64 s.now, .slice F.A s.seats.length F.ac, .slice F.B s.waiting.length F.bc] (opCells op ++ rpCells rp) _ _) fun w0 ⟨hb0, k1, k2⟩ => ?_
  have D0 := Lib.hid hb0
  have L0 := Lib.hid k1
  have X0 := Lib.hid k2
  clear hb0 k1 k2 hcs hxs hq
  go_wp2_with (first | refine wpList_load_mid rfl 37 (.tmp 2) rfl q 0 rfl cs _ L0.out.range Tryz.underlying37 rfl HS1.out ?_ | refine wpList_load_mid rfl 47 (.tmp 3) rfl (q + 1) 0 rfl xs _ X0.out.range Tryz.underlying47 rfl HS2.out ?_)
  refine (CL.out _ D0.out).mono ?_
  rintro e w1 ⟨b, rfl, hb⟩
  have D1 := Lib.hid (D0.out.trans (hb.mono D0.out.size))
  have L1 := Lib.hid (L0.out.later hb)
  have X1 := Lib.hid (X0.out.later hb)
  clear D0 L0 X0
  clear hb CL
  cases b with
  | true => as_aux_lemma =>
    go_wp2_with fail
    refine (CW.out _).mono ?_
    rintro e w2 ⟨rfl, hb⟩
    have D2 := Lib.hid (D1.out.trans (hb.mono D1.out.size))
    clear hb
    go_wp2_with fail
    go_ret
    exact ⟨rfl, D2.out⟩
  | false =>
  go_wp2_with (first | refine wpList_load_mid rfl 37 (.tmp 2) rfl q 0 rfl cs _ L1.out.range Tryz.underlying37 rfl HS1.out ?_ | refine wpList_load_mid rfl 47 (.tmp 3) rfl (q + 1) 0 rfl xs _ X1.out.range Tryz.underlying47 rfl HS2.out ?_)
  refine (C1.out _ D1.out).mono ?_
  rintro e w2 ⟨F1, rfl, is1, hb, hz1⟩
  have D2 := Lib.hid (D1.out.trans (hb.mono D1.out.size))
  have L2 := Lib.hid (L1.out.later hb)
  have X2 := Lib.hid (X1.out.later hb)
  clear D1 L1 X1
  have I1 := Lib.hid is1
  clear hb is1 hz1 C1
  unfold auV
  go_upto_region 4 with fail
  obtain ⟨p1, hp1⟩ : ∃ p1, w2.heap.size = p1 := ⟨_, rfl⟩
  rw [hp1]
  refine at_world (fun w => Below w2.heap.size w2 w ∧ Cells w p1 (auCells F1 s')) ⟨ba _ _, Cells.newS _ _ _ _ hp1.symm⟩ fun w3 ⟨hb, k3⟩ => ?_
  have B1 := Lib.hid k3
  replace I1 := Lib.hid (I1.out.up hb)
  have D3 := Lib.hid (D2.out.trans (hb.mono D2.out.size))
  have L3 := Lib.hid (L2.out.later hb)
  have X3 := Lib.hid (X2.out.later hb)
  clear D2 L2 X2
  clear hb k3 hp1
  go_wp2_with (first | refine wpList_load_mid rfl 37 (.tmp 2) rfl q 0 rfl cs _ L3.out.range Tryz.underlying37 rfl HS1.out ?_ | refine wpList_load_mid rfl 47 (.tmp 3) rfl (q + 1) 0 rfl xs _ X3.out.range Tryz.underlying47 rfl HS2.out ?_)
  refine (C2.out _ D3.out).mono ?_
  rintro e w4 ⟨F2, rfl, is2, hb, hz2⟩
  replace I1 := Lib.hid (I1.out.up hb)
  have D4 := Lib.hid (D3.out.trans (hb.mono D3.out.size))
  have L4 := Lib.hid (L3.out.later hb)
  have X4 := Lib.hid (X3.out.later hb)
  replace B1 := Lib.hid (B1.out.later hb)
  clear D3 L3 X3
  have I2 := Lib.hid is2
  clear hb is2 hz2 C2
  unfold auV
  go_upto_region 5 with fail
  obtain ⟨p2, hp2⟩ : ∃ p2, w4.heap.size = p2 := ⟨_, rfl⟩
  rw [hp2]
  refine at_world (fun w => Below w4.heap.size w4 w ∧ Cells w p2 (auCells F2 s')) ⟨ba _ _, Cells.newS _ _ _ _ hp2.symm⟩ fun w5 ⟨hb, k3⟩ => ?_
  have B2 := Lib.hid k3
  replace I1 := Lib.hid (I1.out.up hb)
  replace I2 := Lib.hid (I2.out.up hb)
  have D5 := Lib.hid (D4.out.trans (hb.mono D4.out.size))
  have L5 := Lib.hid (L4.out.later hb)
  have X5 := Lib.hid (X4.out.later hb)
  replace B1 := Lib.hid (B1.out.later hb)
  clear D4 L4 X4
  clear hb k3 hp2
  have kk := L5.out
  rw [HCS.out] at kk
  have c0 := kk.c 0 _ rfl
  have c1 := kk.c 1 _ rfl
  have c2 := kk.c 2 _ rfl
  have c3 := kk.c 3 _ rfl
  have y0 := kk.lt
  clear kk
  go_wp2_with fail
  refine (C3.out _ D5.out).mono ?_
  rintro e w6 ⟨F3, rfl, is3, hb⟩
  replace I1 := Lib.hid (I1.out.up hb)
  replace I2 := Lib.hid (I2.out.up hb)
  have D6 := Lib.hid (D5.out.trans (hb.mono D5.out.size))
  have L6 := Lib.hid (L5.out.later hb)
  have X6 := Lib.hid (X5.out.later hb)
  replace B1 := Lib.hid (B1.out.later hb)
  replace B2 := Lib.hid (B2.out.later hb)
  clear D5 L5 X5
  have I3 := Lib.hid is3
  clear hb is3 C3 c0 c1 c2 c3 y0
  unfold auV
  go_upto_region 6 with fail
  obtain ⟨p3, hp3⟩ : ∃ p3, w6.heap.size = p3 := ⟨_, rfl⟩
  rw [hp3]
  refine at_world (fun w => Below w6.heap.size w6 w ∧ Cells w p3 (auCells F3 sn)) ⟨ba _ _, Cells.newS _ _ _ _ hp3.symm⟩ fun w7 ⟨hb, k3⟩ => ?_
  have B3 := Lib.hid k3
  replace I1 := Lib.hid (I1.out.up hb)
  replace I2 := Lib.hid (I2.out.up hb)
  replace I3 := Lib.hid (I3.out.up hb)
  have D7 := Lib.hid (D6.out.trans (hb.mono D6.out.size))
  have L7 := Lib.hid (L6.out.later hb)
  have X7 := Lib.hid (X6.out.later hb)
  replace B1 := Lib.hid (B1.out.later hb)
  replace B2 := Lib.hid (B2.out.later hb)
  clear D6 L6 X6
  clear hb k3 hp3
  have kk := L7.out
  rw [HCS.out] at kk
  have c0 := kk.c 0 _ rfl
  have c1 := kk.c 1 _ rfl
  have c2 := kk.c 2 _ rfl
  have c3 := kk.c 3 _ rfl
  have y0 := kk.lt
  clear kk
  go_wp2_with fail
  refine (C4.out _ D7.out).mono ?_
  rintro e w8 ⟨F4, rfl, is4, hb⟩
  replace I1 := Lib.hid (I1.out.up hb)
  replace I2 := Lib.hid (I2.out.up hb)
  replace I3 := Lib.hid (I3.out.up hb)
  have D8 := Lib.hid (D7.out.trans (hb.mono D7.out.size))
  have L8 := Lib.hid (L7.out.later hb)
  have X8 := Lib.hid (X7.out.later hb)
  replace B1 := Lib.hid (B1.out.later hb)
  replace B2 := Lib.hid (B2.out.later hb)
  replace B3 := Lib.hid (B3.out.later hb)
  clear D7 L7 X7
  have I4 := Lib.hid is4
  clear hb is4 C4 c0 c1 c2 c3 y0
  unfold auV
  go_upto_region 7 with fail
  obtain ⟨p4, hp4⟩ : ∃ p4, w8.heap.size = p4 := ⟨_, rfl⟩
  rw [hp4]
  refine at_world (fun w => Below w8.heap.size w8 w ∧ Cells w p4 (auCells F4 sn)) ⟨ba _ _, Cells.newS _ _ _ _ hp4.symm⟩ fun w9 ⟨hb, k3⟩ => ?_
  have B4 := Lib.hid k3
  have S1 := Lib.hid (fun w (hw : Below w9.heap.size w9 w) => sameAu_any ((I1.out.up hb).up hw) ((I2.out.up hb).up hw))
  have S2 := Lib.hid (fun w (hw : Below w9.heap.size w9 w) => sameAu_any ((I3.out.up hb).up hw) ((I4.out.up hb).up hw))
  unfold auV at S1 S2
  have D9 := Lib.hid (D8.out.trans (hb.mono D8.out.size))
  have L9 := Lib.hid (L8.out.later hb)
  have X9 := Lib.hid (X8.out.later hb)
  replace B1 := Lib.hid (B1.out.later hb)
  replace B2 := Lib.hid (B2.out.later hb)
  replace B3 := Lib.hid (B3.out.later hb)
  clear D8 L8 X8
  clear hb k3 hp4 I1 I2 I3 I4 X9
  as_aux_lemma =>
    have C5' := Lib.hid (fun w (hw : Below w9.heap.size w9 w) => C5.out w (D9.out.trans (hw.mono D9.out.size)))
    have C6' := Lib.hid (fun w (hw : Below w9.heap.size w9 w) => C6.out w (D9.out.trans (hw.mono D9.out.size)))
    clear C5 C6
    have kk := L9.out
    rw [HCS.out] at kk
    have c0 := gro_cell (kk.c 0 _ rfl)
    have c1 := gro_cell (kk.c 1 _ rfl)
    have c2 := gro_cell (kk.c 2 _ rfl)
    have c3 := gro_cell (kk.c 3 _ rfl)
    have c4 := gro_cell (kk.c 4 _ rfl)
    have c5 := gro_cell (kk.c 5 _ rfl)
    have c6 := gro_cell (kk.c 6 _ rfl)
    have y0 := kk.lt
    clear kk
    have kk := B1.out
    have d0 := gro_cell (kk.c 0 _ rfl)
    have d1 := gro_cell (kk.c 1 _ rfl)
    have d2 := gro_cell (kk.c 2 _ rfl)
    have d3 := gro_cell (kk.c 3 _ rfl)
    have d4 := gro_cell (kk.c 4 _ rfl)
    have d5 := gro_cell (kk.c 5 _ rfl)
    have d6 := gro_cell (kk.c 6 _ rfl)
    have y1 := kk.lt
    clear kk
    have kk := B2.out
    have e0 := gro_cell (kk.c 0 _ rfl)
    have e1 := gro_cell (kk.c 1 _ rfl)
    have e2 := gro_cell (kk.c 2 _ rfl)
    have e3 := gro_cell (kk.c 3 _ rfl)
    have e4 := gro_cell (kk.c 4 _ rfl)
    have e5 := gro_cell (kk.c 5 _ rfl)
    have e6 := gro_cell (kk.c 6 _ rfl)
    have y2 := kk.lt
    clear kk
    have kk := B3.out
    have f0 := gro_cell (kk.c 0 _ rfl)
    have f1 := gro_cell (kk.c 1 _ rfl)
    have f2 := gro_cell (kk.c 2 _ rfl)
    have f3 := gro_cell (kk.c 3 _ rfl)
    have f4 := gro_cell (kk.c 4 _ rfl)
    have f5 := gro_cell (kk.c 5 _ rfl)
    have f6 := gro_cell (kk.c 6 _ rfl)
    have y3 := kk.lt
    clear kk
    have kk := B4.out
    have g0 := gro_cell (kk.c 0 _ rfl)
    have g1 := gro_cell (kk.c 1 _ rfl)
    have g2 := gro_cell (kk.c 2 _ rfl)
    have g3 := gro_cell (kk.c 3 _ rfl)
    have g4 := gro_cell (kk.c 4 _ rfl)
    have g5 := gro_cell (kk.c 5 _ rfl)
    have g6 := gro_cell (kk.c 6 _ rfl)
    have y4 := kk.lt
    clear kk
    refine wp_region_gro (by kernel_rfl) (by kernel_rfl) ?_
    iterate 15 (go_big_quiet_step (first
      | (go_at_call 15; exact Calls.gro_of (S1.out _ (gro_below _ _)))
      | (go_at_call 16; exact Calls.gro_of (C5'.out _ (gro_below _ _)))
      | (go_at_call 17; exact Calls.gro_of (C6'.out _ (gro_below _ _)))
      | (go_at_call 6; exact Calls.gro_of (CW.out _))
      | fail))
    clear S1
    repeat (go_big_quiet_step (first
      | (go_at_call 15; exact Calls.gro_of (S2.out _ (gro_below _ _)))
      | (go_at_call 16; exact Calls.gro_of (C5'.out _ (gro_below _ _)))
      | (go_at_call 17; exact Calls.gro_of (C6'.out _ (gro_below _ _)))
      | (go_at_call 6; exact Calls.gro_of (CW.out _))
      | fail))
    refine wpQuiet_nil ?_
    rintro _ ⟨p, rfl⟩
    go_wp2_with fail
    go_ret
    exact ⟨rfl, D9.out.trans ((gro_below _ _).mono D9.out.size)⟩
end Go.Proofs.YtcomfhigbjkoeaaGreatDoor
