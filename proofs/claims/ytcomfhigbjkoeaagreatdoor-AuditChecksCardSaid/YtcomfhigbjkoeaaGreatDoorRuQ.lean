/-
  Walk of groundlingref32.after, some kinds of step. Conditions: as each theorem says.
  Walk of groundlingref32.after, some kinds of step. Conditions: as each theorem says.
  Walk of groundlingref32.after, some kinds of step. Conditions: as each theorem says.
  Walk of groundlingref32.after, some kinds of step. Conditions: as each theorem says.
  Walk of groundlingref32.after, some kinds of step. Conditions: as each theorem says.
  Walk of groundlingref32.after, some kinds of step. Conditions: as each theorem says.
-/
import Derived.Test.YtcomfhigbjkoeaaGreatDoorRuP
import Derived.BigRegion
import Derived.Deep.CutRange
namespace Go.Proofs.YtcomfhigbjkoeaaGreatDoor
open Go.RowKit


set_option maxRecDepth 100000 in
set_option maxHeartbeats 16000000 in
theorem rafter1_any {W : World} {F : Frm} {s : Au} {op : MOp} {rp : MRp} (R : IsAu W F s) (ok : Aok s) (ho : OpOk op) (hr : RpOk rp) (hk : op.kind = 1) : Calls Tryz.prog 23 #[auV F s, stV op rp] W (fun e w' => ∃ F', e = .returned (auV F' (learnA s op rp)) ∧ IsAu w' F' (learnA s op rp) ∧ Below W.heap.size W w' ∧ StepOwn W F s F' (learnA s op rp) w') := by
  have hlen := ok.len
  have hwl : s.waiting.length ≤ 8 := by
    have h1 := ok.hw
    have h2 := (checkV_ok ok.hc).1.1
    omega
  have HR := Lib.hid R
  have HOR := Lib.hid (And.intro ho hr)
  have CS := Lib.hid (fun w => rspoken_any op w ho.2.2.2.2.2.2.2.1.1)
  unfold opV at CS
  have hL := Lib.hid (show learnA s op rp = s by simp [learnA, isB, hk])
  have hS : seatA op = -1 := by simp [seatA, hk]
  have HK := Lib.hid hk
  clear R ok ho hr hk
  unfold auV stV
  go_enter Tryz.func23, Tryz.ntmps23
  go_upto_region 2 with fail
  obtain ⟨q, hq⟩ : ∃ q, W.heap.size = q := ⟨_, rfl⟩
  rw [hq]
  refine at_world (fun w => Below W.heap.size W w ∧ Cells w q (auCells F s) ∧ Cells w (q + 1) (opCells op ++ rpCells rp) ∧ Cells w (q + 1 + 1) zeroAuC ∧ Cells w (q + 1 + 1 + 1) (opCells op))
    (four_boxes hq (auCells F s) (opCells op ++ rpCells rp) zeroAuC (opCells op) _ _ _ _) fun w1 ⟨hb1, k1, k2, k3, k4⟩ => ?_
  have D1 := Lib.hid hb1
  have L1 := Lib.hid k1
  have X1 := Lib.hid k2
  have Z1 := Lib.hid k3
  have O1 := Lib.hid k4
  have HQ := Lib.hid hq
  clear hb1 k1 k2 k3 k4 hq
  have c5 := L1.out.c 5 _ rfl
  have f5 := L1.out.f 5
  have y0 := L1.out.lt
  go_upto_region 3 with (at_builtin; go_loud (refine wpList_append_sl _ rfl (.tmp 14) (.tmp 16) 34 rfl seR (q + 1 + 1 + 1 + 1) 75 _ 32 Tryz.underlying34 infoE rfl (by decide) _ [] rfl (Own.empty _ _ _ (by have := O1.out.lt; omega)) _ s.seats rfl (HR.out.ss.up (bal D1.out)) (by simp; omega) (by decide) (by have := O1.out.lt; simp; omega) (fun w' _ cs y h => seR_flat _ _ _ _ h) ?_; intro v1 w2 hown1 hg1 hat1; have hb2 := (ba w1 (.cells #[] 75)).grown hg1 (ba w1 (.cells #[] 75)).size (fun j hj => by cases hj; exact Nat.le_refl _); obtain ⟨a, ac, rfl, ha⟩ := own_app hown1 hat1 (by simp); replace c5 := cell_later hb2 c5; replace f5 := (L1.out.later hb2).f 5; have y0' : q < w2.heap.size := Nat.lt_of_lt_of_le y0 hb2.size))
  have hga : q + 1 + 1 + 1 + 1 ≤ a := by have h1 := O1.out.lt; have h2 : w1.heap.size ≤ a := ha; omega
  have D2 := Lib.hid (D1.out.trans (hb2.mono D1.out.size))
  have hset := grownBy_set w2 q 5 (.slice (some ⟨a, 0, none⟩) s.seats.length ac)
  have hWq : W.heap.size ≤ q := by have := HQ.out; omega
  have hown2 := hown1
  simp only [List.nil_append] at hown2 ⊢
  refine at_world (fun w => Below W.heap.size W w ∧ Cells w q [.int .i64 s.ve.shards, .int .i64 s.ve.ttl, .int .i64 s.ve.session, .slice F.V s.ve.secs.length F.vc, .int .i64 s.now, .slice (some ⟨a, 0, none⟩) s.seats.length ac, .slice F.B s.waiting.length F.bc] ∧ Cells w (q + 1) (opCells op ++ rpCells rp) ∧ Cells w (q + 1 + 1) zeroAuC ∧ Cells w (q + 1 + 1 + 1) (opCells op) ∧ Own seR 75 (q + 1 + 1 + 1 + 1) w (.slice (some ⟨a, 0, none⟩) s.seats.length ac) s.seats)
    ⟨D2.out.grown hset D2.out.size (fun j hj => by injection hj with hj; omega), (L1.out.later hb2).set1, (X1.out.later hb2).grown hset (fun e => by injection e with e; omega), (Z1.out.later hb2).grown hset (fun e => by injection e with e; omega), (O1.out.later hb2).grown hset (fun e => by injection e with e; omega), hown2.kept hset (fun i hi e => by cases hi; injection e with e; dsimp only at e; omega) (fun _ _ h => h)⟩ fun w3 ⟨hb3, k1, k2, k3, k4, o1⟩ => ?_
  have D3 := Lib.hid hb3
  have L3 := Lib.hid k1
  have X3 := Lib.hid k2
  have Z3 := Lib.hid k3
  have O3 := Lib.hid k4
  have P3 := Lib.hid o1
  clear hb3 k1 k2 k3 k4 o1 hset hown1 hown2 hg1 hat1 ha hb2 c5 f5 y0 y0' D1 D2 L1 X1 Z1 O1
  have c6 := L3.out.c 6 _ rfl
  have f6 := L3.out.f 6
  have y0 := L3.out.lt
  go_upto_region 4 with (at_builtin; go_loud (refine wpList_append_sl _ rfl (.tmp 19) (.tmp 21) 35 rfl intR (q + 1 + 1 + 1 + 1) 3 _ 8 Tryz.underlying35 infoJ rfl (by decide) _ [] rfl (Own.empty _ _ _ (by have := O3.out.lt; omega)) _ s.waiting rfl (HR.out.ws.up (bal D3.out)) (by simp; omega) (by decide) (by have := O3.out.lt; simp; omega) (fun w' _ cs y h => intR_flat _ _ _ _ h) ?_; intro v1 w2 hown1 hg1 hat1; have hb2 := (ba w3 (.cells #[] 3)).grown hg1 (ba w3 (.cells #[] 3)).size (fun j hj => by cases hj; exact Nat.le_refl _); obtain ⟨b, bc, rfl, hb9⟩ := own_app hown1 hat1 (by simp); replace c6 := cell_later hb2 c6; replace f6 := (L3.out.later hb2).f 6; have y0' : q < w2.heap.size := Nat.lt_of_lt_of_le y0 hb2.size))
  have hab : a < b := by have h1 := (P3.out.lt a rfl).2; have h2 : w3.heap.size ≤ b := hb9; omega
  have hgb : q + 1 + 1 + 1 + 1 ≤ b := by omega
  have D4 := Lib.hid (D3.out.trans (hb2.mono D3.out.size))
  have hset := grownBy_set w2 q 6 (.slice (some ⟨b, 0, none⟩) s.waiting.length bc)
  have hown2 := hown1
  simp only [List.nil_append] at hown2 ⊢
  refine at_world (fun w => AfO W w q a ac b bc F.V F.vc s op rp)
    ⟨D4.out.grown hset D4.out.size (fun j hj => by injection hj with hj; omega), hWq, (L3.out.later hb2).set1, (X3.out.later hb2).grown hset (fun e => by injection e with e; omega), (Z3.out.later hb2).grown hset (fun e => by injection e with e; omega), (O3.out.later hb2).grown hset (fun e => by injection e with e; omega), (P3.out.up hb2).kept hset (fun i hi e => by cases hi; injection e with e; dsimp only at e; omega) (fun _ _ h => h),
      hown2.kept hset (fun i hi e => by cases hi; injection e with e; dsimp only at e; omega) (fun _ _ h => h), by omega, HR.out.vs, HR.out.bv, HR.out.bn⟩ fun w5 R5 => ?_
  have RR := Lib.hid R5
  clear R5 hset hown1 hown2 hg1 hat1 hb9 hb2 c6 f6 y0 y0' D3 D4 L3 X3 Z3 O3 P3 hga hgb hab hWq HQ
  have kk := RR.out.oc
  have o0 := kk.c 0 _ rfl
  have yo := kk.lt
  clear kk
  rw [HK.out] at o0
  clear o0 yo
  have kk := RR.out.oc
  have o0 := kk.c 0 _ rfl
  have o1 := kk.c 1 _ rfl
  have o2 := kk.c 2 _ rfl
  have o3 := kk.c 3 _ rfl
  have o4 := kk.c 4 _ rfl
  have o5 := kk.c 5 _ rfl
  have o6 := kk.c 6 _ rfl
  have o7 := kk.c 7 _ rfl
  have o8 := kk.c 8 _ rfl
  have o9 := kk.c 9 _ rfl
  have o10 := kk.c 10 _ rfl
  have o11 := kk.c 11 _ rfl
  have yo := kk.lt
  clear kk
  rw [HK.out] at o0
  have CS' := CS
  rw [hS, HK.out] at CS'
  go_wp2_with fail
  refine (CS'.out _).mono ?_
  rintro e w7 ⟨rfl, hb7⟩
  have R7 := Lib.hid (RR.out.up hb7)
  clear o0 o1 o2 o3 o4 o5 o6 o7 o8 o9 o10 o11 yo hb7 CS CS'
  have kk := R7.out.oc
  have o0 := kk.c 0 _ rfl
  have yo := kk.lt
  clear kk
  rw [HK.out] at o0
  have kk := R7.out.cs
  have c0 := kk.c 0 _ rfl
  have c1 := kk.c 1 _ rfl
  have c2 := kk.c 2 _ rfl
  have c3 := kk.c 3 _ rfl
  have c4 := kk.c 4 _ rfl
  have c5 := kk.c 5 _ rfl
  have c6 := kk.c 6 _ rfl
  have yc := kk.lt
  clear kk
  dsimp only [cpF] at c3 c5 c6
  have kk := R7.out.rs
  have d0 := kk.c 0 _ rfl
  have d1 := kk.c 1 _ rfl
  have d2 := kk.c 2 _ rfl
  have d3 := kk.c 3 _ rfl
  have d4 := kk.c 4 _ rfl
  have d5 := kk.c 5 _ rfl
  have d6 := kk.c 6 _ rfl
  have e0 := kk.f 0
  have e1 := kk.f 1
  have e2 := kk.f 2
  have e3 := kk.f 3
  have e4 := kk.f 4
  have e5 := kk.f 5
  have e6 := kk.f 6
  have yd := kk.lt
  clear kk
  go_wp2_with fail
  refine at_world (fun w => Below W.heap.size W w ∧ Cells w (q + 1 + 1) (auCells (cpF F.V F.vc a ac b bc) s) ∧ IsAu w (cpF F.V F.vc a ac b bc) s ∧ Own seR 75 W.heap.size w (.slice (some ⟨a, 0, none⟩) (s).seats.length ac) (s).seats ∧ Own intR 3 W.heap.size w (.slice (some ⟨b, 0, none⟩) (s).waiting.length bc) (s).waiting) R7.out.out fun w9 ⟨hb9, k9, is9, p9, o9⟩ => ?_
  have g0 := k9.c 0 _ rfl
  have g1 := k9.c 1 _ rfl
  have g2 := k9.c 2 _ rfl
  have g3 := k9.c 3 _ rfl
  have g4 := k9.c 4 _ rfl
  have g5 := k9.c 5 _ rfl
  have g6 := k9.c 6 _ rfl
  dsimp only [cpF] at g3 g5 g6
  rw [hL.out]
  exact bodyPost_ret (v := auV (cpF F.V F.vc a ac b bc) s) (by simp [results, Tryz.results23, go_sem, g0, g1, g2, g3, g4, g5, g6, auV, cpF]) rfl ⟨_, rfl, is9, hb9, .inr ⟨rfl, rfl, by first | rfl | (rw [← hL.out]; exact learn_ve s op rp), p9, o9⟩⟩

set_option maxRecDepth 100000 in
set_option maxHeartbeats 16000000 in
theorem rafter9_any {W : World} {F : Frm} {s : Au} {op : MOp} {rp : MRp} (R : IsAu W F s) (ok : Aok s) (ho : OpOk op) (hr : RpOk rp) (hk : op.kind = 9) {k : Nat} (hs : seatA op = (k : Int)) : Calls Tryz.prog 23 #[auV F s, stV op rp] W (fun e w' => ∃ F', e = .returned (auV F' (learnA s op rp)) ∧ IsAu w' F' (learnA s op rp) ∧ Below W.heap.size W w' ∧ StepOwn W F s F' (learnA s op rp) w') := by
  have hlen := ok.len
  have hwl : s.waiting.length ≤ 8 := by
    have h1 := ok.hw
    have h2 := (checkV_ok ok.hc).1.1
    omega
  have HR := Lib.hid R
  have HOR := Lib.hid (And.intro ho hr)
  have CS := Lib.hid (fun w => rspoken_any op w ho.2.2.2.2.2.2.2.1.1)
  unfold opV at CS
  have hL := Lib.hid (show learnA s op rp = s by simp [learnA, isB, hk])
  have hk0 : decide ((k : Int) < 0) = false := decide_eq_false (by omega)
  have HK := Lib.hid hk
  clear R ok ho hr hk
  unfold auV stV
  go_enter Tryz.func23, Tryz.ntmps23
  go_upto_region 2 with fail
  obtain ⟨q, hq⟩ : ∃ q, W.heap.size = q := ⟨_, rfl⟩
  rw [hq]
  refine at_world (fun w => Below W.heap.size W w ∧ Cells w q (auCells F s) ∧ Cells w (q + 1) (opCells op ++ rpCells rp) ∧ Cells w (q + 1 + 1) zeroAuC ∧ Cells w (q + 1 + 1 + 1) (opCells op))
    (four_boxes hq (auCells F s) (opCells op ++ rpCells rp) zeroAuC (opCells op) _ _ _ _) fun w1 ⟨hb1, k1, k2, k3, k4⟩ => ?_
  have D1 := Lib.hid hb1
  have L1 := Lib.hid k1
  have X1 := Lib.hid k2
  have Z1 := Lib.hid k3
  have O1 := Lib.hid k4
  have HQ := Lib.hid hq
  clear hb1 k1 k2 k3 k4 hq
  have c5 := L1.out.c 5 _ rfl
  have f5 := L1.out.f 5
  have y0 := L1.out.lt
  go_upto_region 3 with (at_builtin; go_loud (refine wpList_append_sl _ rfl (.tmp 14) (.tmp 16) 34 rfl seR (q + 1 + 1 + 1 + 1) 75 _ 32 Tryz.underlying34 infoE rfl (by decide) _ [] rfl (Own.empty _ _ _ (by have := O1.out.lt; omega)) _ s.seats rfl (HR.out.ss.up (bal D1.out)) (by simp; omega) (by decide) (by have := O1.out.lt; simp; omega) (fun w' _ cs y h => seR_flat _ _ _ _ h) ?_; intro v1 w2 hown1 hg1 hat1; have hb2 := (ba w1 (.cells #[] 75)).grown hg1 (ba w1 (.cells #[] 75)).size (fun j hj => by cases hj; exact Nat.le_refl _); obtain ⟨a, ac, rfl, ha⟩ := own_app hown1 hat1 (by simp); replace c5 := cell_later hb2 c5; replace f5 := (L1.out.later hb2).f 5; have y0' : q < w2.heap.size := Nat.lt_of_lt_of_le y0 hb2.size))
  have hga : q + 1 + 1 + 1 + 1 ≤ a := by have h1 := O1.out.lt; have h2 : w1.heap.size ≤ a := ha; omega
  have D2 := Lib.hid (D1.out.trans (hb2.mono D1.out.size))
  have hset := grownBy_set w2 q 5 (.slice (some ⟨a, 0, none⟩) s.seats.length ac)
  have hWq : W.heap.size ≤ q := by have := HQ.out; omega
  have hown2 := hown1
  simp only [List.nil_append] at hown2 ⊢
  refine at_world (fun w => Below W.heap.size W w ∧ Cells w q [.int .i64 s.ve.shards, .int .i64 s.ve.ttl, .int .i64 s.ve.session, .slice F.V s.ve.secs.length F.vc, .int .i64 s.now, .slice (some ⟨a, 0, none⟩) s.seats.length ac, .slice F.B s.waiting.length F.bc] ∧ Cells w (q + 1) (opCells op ++ rpCells rp) ∧ Cells w (q + 1 + 1) zeroAuC ∧ Cells w (q + 1 + 1 + 1) (opCells op) ∧ Own seR 75 (q + 1 + 1 + 1 + 1) w (.slice (some ⟨a, 0, none⟩) s.seats.length ac) s.seats)
    ⟨D2.out.grown hset D2.out.size (fun j hj => by injection hj with hj; omega), (L1.out.later hb2).set1, (X1.out.later hb2).grown hset (fun e => by injection e with e; omega), (Z1.out.later hb2).grown hset (fun e => by injection e with e; omega), (O1.out.later hb2).grown hset (fun e => by injection e with e; omega), hown2.kept hset (fun i hi e => by cases hi; injection e with e; dsimp only at e; omega) (fun _ _ h => h)⟩ fun w3 ⟨hb3, k1, k2, k3, k4, o1⟩ => ?_
  have D3 := Lib.hid hb3
  have L3 := Lib.hid k1
  have X3 := Lib.hid k2
  have Z3 := Lib.hid k3
  have O3 := Lib.hid k4
  have P3 := Lib.hid o1
  clear hb3 k1 k2 k3 k4 o1 hset hown1 hown2 hg1 hat1 ha hb2 c5 f5 y0 y0' D1 D2 L1 X1 Z1 O1
  have c6 := L3.out.c 6 _ rfl
  have f6 := L3.out.f 6
  have y0 := L3.out.lt
  go_upto_region 4 with (at_builtin; go_loud (refine wpList_append_sl _ rfl (.tmp 19) (.tmp 21) 35 rfl intR (q + 1 + 1 + 1 + 1) 3 _ 8 Tryz.underlying35 infoJ rfl (by decide) _ [] rfl (Own.empty _ _ _ (by have := O3.out.lt; omega)) _ s.waiting rfl (HR.out.ws.up (bal D3.out)) (by simp; omega) (by decide) (by have := O3.out.lt; simp; omega) (fun w' _ cs y h => intR_flat _ _ _ _ h) ?_; intro v1 w2 hown1 hg1 hat1; have hb2 := (ba w3 (.cells #[] 3)).grown hg1 (ba w3 (.cells #[] 3)).size (fun j hj => by cases hj; exact Nat.le_refl _); obtain ⟨b, bc, rfl, hb9⟩ := own_app hown1 hat1 (by simp); replace c6 := cell_later hb2 c6; replace f6 := (L3.out.later hb2).f 6; have y0' : q < w2.heap.size := Nat.lt_of_lt_of_le y0 hb2.size))
  have hab : a < b := by have h1 := (P3.out.lt a rfl).2; have h2 : w3.heap.size ≤ b := hb9; omega
  have hgb : q + 1 + 1 + 1 + 1 ≤ b := by omega
  have D4 := Lib.hid (D3.out.trans (hb2.mono D3.out.size))
  have hset := grownBy_set w2 q 6 (.slice (some ⟨b, 0, none⟩) s.waiting.length bc)
  have hown2 := hown1
  simp only [List.nil_append] at hown2 ⊢
  refine at_world (fun w => AfO W w q a ac b bc F.V F.vc s op rp)
    ⟨D4.out.grown hset D4.out.size (fun j hj => by injection hj with hj; omega), hWq, (L3.out.later hb2).set1, (X3.out.later hb2).grown hset (fun e => by injection e with e; omega), (Z3.out.later hb2).grown hset (fun e => by injection e with e; omega), (O3.out.later hb2).grown hset (fun e => by injection e with e; omega), (P3.out.up hb2).kept hset (fun i hi e => by cases hi; injection e with e; dsimp only at e; omega) (fun _ _ h => h),
      hown2.kept hset (fun i hi e => by cases hi; injection e with e; dsimp only at e; omega) (fun _ _ h => h), by omega, HR.out.vs, HR.out.bv, HR.out.bn⟩ fun w5 R5 => ?_
  have RR := Lib.hid R5
  clear R5 hset hown1 hown2 hg1 hat1 hb9 hb2 c6 f6 y0 y0' D3 D4 L3 X3 Z3 O3 P3 hga hgb hab hWq HQ
  have kk := RR.out.oc
  have o0 := kk.c 0 _ rfl
  have o1 := kk.c 1 _ rfl
  have o2 := kk.c 2 _ rfl
  have o3 := kk.c 3 _ rfl
  have o4 := kk.c 4 _ rfl
  have o5 := kk.c 5 _ rfl
  have o6 := kk.c 6 _ rfl
  have o7 := kk.c 7 _ rfl
  have o8 := kk.c 8 _ rfl
  have o9 := kk.c 9 _ rfl
  have o10 := kk.c 10 _ rfl
  have o11 := kk.c 11 _ rfl
  have yo := kk.lt
  clear kk
  rw [HK.out] at o0
  have CS' := CS
  rw [hs, HK.out] at CS'
  go_wp2_with fail
  refine (CS'.out _).mono ?_
  rintro e w7 ⟨rfl, hb7⟩
  have R7 := Lib.hid (RR.out.up hb7)
  clear o0 o1 o2 o3 o4 o5 o6 o7 o8 o9 o10 o11 yo hb7 CS CS'
  have kk := R7.out.oc
  have o0 := kk.c 0 _ rfl
  have yo := kk.lt
  clear kk
  rw [HK.out] at o0
  have kk := R7.out.cs
  have c0 := kk.c 0 _ rfl
  have c1 := kk.c 1 _ rfl
  have c2 := kk.c 2 _ rfl
  have c3 := kk.c 3 _ rfl
  have c4 := kk.c 4 _ rfl
  have c5 := kk.c 5 _ rfl
  have c6 := kk.c 6 _ rfl
  have yc := kk.lt
  clear kk
  dsimp only [cpF] at c3 c5 c6
  have kk := R7.out.rs
  have d0 := kk.c 0 _ rfl
  have d1 := kk.c 1 _ rfl
  have d2 := kk.c 2 _ rfl
  have d3 := kk.c 3 _ rfl
  have d4 := kk.c 4 _ rfl
  have d5 := kk.c 5 _ rfl
  have d6 := kk.c 6 _ rfl
  have e0 := kk.f 0
  have e1 := kk.f 1
  have e2 := kk.f 2
  have e3 := kk.f 3
  have e4 := kk.f 4
  have e5 := kk.f 5
  have e6 := kk.f 6
  have yd := kk.lt
  clear kk
  go_wp2_with fail
  refine at_world (fun w => Below W.heap.size W w ∧ Cells w (q + 1 + 1) (auCells (cpF F.V F.vc a ac b bc) s) ∧ IsAu w (cpF F.V F.vc a ac b bc) s ∧ Own seR 75 W.heap.size w (.slice (some ⟨a, 0, none⟩) (s).seats.length ac) (s).seats ∧ Own intR 3 W.heap.size w (.slice (some ⟨b, 0, none⟩) (s).waiting.length bc) (s).waiting) R7.out.out fun w9 ⟨hb9, k9, is9, p9, o9⟩ => ?_
  have g0 := k9.c 0 _ rfl
  have g1 := k9.c 1 _ rfl
  have g2 := k9.c 2 _ rfl
  have g3 := k9.c 3 _ rfl
  have g4 := k9.c 4 _ rfl
  have g5 := k9.c 5 _ rfl
  have g6 := k9.c 6 _ rfl
  dsimp only [cpF] at g3 g5 g6
  rw [hL.out]
  exact bodyPost_ret (v := auV (cpF F.V F.vc a ac b bc) s) (by simp [results, Tryz.results23, go_sem, g0, g1, g2, g3, g4, g5, g6, auV, cpF]) rfl ⟨_, rfl, is9, hb9, .inr ⟨rfl, rfl, by first | rfl | (rw [← hL.out]; exact learn_ve s op rp), p9, o9⟩⟩

end Go.Proofs.YtcomfhigbjkoeaaGreatDoor

namespace Go.Proofs.YtcomfhigbjkoeaaGreatDoor
open Go.RowKit


set_option maxRecDepth 100000 in
set_option maxHeartbeats 16000000 in
theorem rafter4_any {W : World} {F : Frm} {s : Au} {op : MOp} {rp : MRp} (R : IsAu W F s) (ok : Aok s) (ho : OpOk op) (hr : RpOk rp) (hk : op.kind = 4) {k : Nat} (hs : seatA op = (k : Int)) (hlt : k < s.seats.length) : Calls Tryz.prog 23 #[auV F s, stV op rp] W (fun e w' => ∃ F', e = .returned (auV F' (learnA s op rp)) ∧ IsAu w' F' (learnA s op rp) ∧ Below W.heap.size W w' ∧ StepOwn W F s F' (learnA s op rp) w') := by
  have hlen := ok.len
  have hwl : s.waiting.length ≤ 8 := by
    have h1 := ok.hw
    have h2 := (checkV_ok ok.hc).1.1
    omega
  have HR := Lib.hid R
  have HOR := Lib.hid (And.intro ho hr)
  have CS := Lib.hid (fun w => rspoken_any op w ho.2.2.2.2.2.2.2.1.1)
  unfold opV at CS
  have hL := Lib.hid (show learnA s op rp = { s with seats := s.seats.set k (freeS s.seats[k]) } by simp [learnA, isB, hk, hs, seatMod, List.getElem?_eq_getElem hlt])
  have HX := Lib.hid (show U64 s.seats[k].serial ∧ U64 s.seats[k].epoch by
    obtain ⟨_, _, _, _, _, _, _, _, _, _, _, _, hx2, hx3⟩ := R.ss.atE hlt
    exact ⟨hx2, hx3⟩)
  have hk0 : (0 : Int) ≤ (k : Int) := by omega
  have hk1 : (k : Int) < (s.seats.length : Int) := by omega
  have hk2 : decide ((k : Int) < 0) = false := decide_eq_false (by omega)
  have HK := Lib.hid hk
  clear R ok ho hr hk
  unfold auV stV
  go_enter Tryz.func23, Tryz.ntmps23
  go_upto_region 2 with fail
  obtain ⟨q, hq⟩ : ∃ q, W.heap.size = q := ⟨_, rfl⟩
  rw [hq]
  refine at_world (fun w => Below W.heap.size W w ∧ Cells w q (auCells F s) ∧ Cells w (q + 1) (opCells op ++ rpCells rp) ∧ Cells w (q + 1 + 1) zeroAuC ∧ Cells w (q + 1 + 1 + 1) (opCells op))
    (four_boxes hq (auCells F s) (opCells op ++ rpCells rp) zeroAuC (opCells op) _ _ _ _) fun w1 ⟨hb1, k1, k2, k3, k4⟩ => ?_
  have D1 := Lib.hid hb1
  have L1 := Lib.hid k1
  have X1 := Lib.hid k2
  have Z1 := Lib.hid k3
  have O1 := Lib.hid k4
  have HQ := Lib.hid hq
  clear hb1 k1 k2 k3 k4 hq
  have c5 := L1.out.c 5 _ rfl
  have f5 := L1.out.f 5
  have y0 := L1.out.lt
  go_upto_region 3 with (at_builtin; go_loud (refine wpList_append_sl _ rfl (.tmp 14) (.tmp 16) 34 rfl seR (q + 1 + 1 + 1 + 1) 75 _ 32 Tryz.underlying34 infoE rfl (by decide) _ [] rfl (Own.empty _ _ _ (by have := O1.out.lt; omega)) _ s.seats rfl (HR.out.ss.up (bal D1.out)) (by simp; omega) (by decide) (by have := O1.out.lt; simp; omega) (fun w' _ cs y h => seR_flat _ _ _ _ h) ?_; intro v1 w2 hown1 hg1 hat1; have hb2 := (ba w1 (.cells #[] 75)).grown hg1 (ba w1 (.cells #[] 75)).size (fun j hj => by cases hj; exact Nat.le_refl _); obtain ⟨a, ac, rfl, ha⟩ := own_app hown1 hat1 (by simp); replace c5 := cell_later hb2 c5; replace f5 := (L1.out.later hb2).f 5; have y0' : q < w2.heap.size := Nat.lt_of_lt_of_le y0 hb2.size))
  have hga : q + 1 + 1 + 1 + 1 ≤ a := by have h1 := O1.out.lt; have h2 : w1.heap.size ≤ a := ha; omega
  have D2 := Lib.hid (D1.out.trans (hb2.mono D1.out.size))
  have hset := grownBy_set w2 q 5 (.slice (some ⟨a, 0, none⟩) s.seats.length ac)
  have hWq : W.heap.size ≤ q := by have := HQ.out; omega
  have hown2 := hown1
  simp only [List.nil_append] at hown2 ⊢
  refine at_world (fun w => Below W.heap.size W w ∧ Cells w q [.int .i64 s.ve.shards, .int .i64 s.ve.ttl, .int .i64 s.ve.session, .slice F.V s.ve.secs.length F.vc, .int .i64 s.now, .slice (some ⟨a, 0, none⟩) s.seats.length ac, .slice F.B s.waiting.length F.bc] ∧ Cells w (q + 1) (opCells op ++ rpCells rp) ∧ Cells w (q + 1 + 1) zeroAuC ∧ Cells w (q + 1 + 1 + 1) (opCells op) ∧ Own seR 75 (q + 1 + 1 + 1 + 1) w (.slice (some ⟨a, 0, none⟩) s.seats.length ac) s.seats)
    ⟨D2.out.grown hset D2.out.size (fun j hj => by injection hj with hj; omega), (L1.out.later hb2).set1, (X1.out.later hb2).grown hset (fun e => by injection e with e; omega), (Z1.out.later hb2).grown hset (fun e => by injection e with e; omega), (O1.out.later hb2).grown hset (fun e => by injection e with e; omega), hown2.kept hset (fun i hi e => by cases hi; injection e with e; dsimp only at e; omega) (fun _ _ h => h)⟩ fun w3 ⟨hb3, k1, k2, k3, k4, o1⟩ => ?_
  have D3 := Lib.hid hb3
  have L3 := Lib.hid k1
  have X3 := Lib.hid k2
  have Z3 := Lib.hid k3
  have O3 := Lib.hid k4
  have P3 := Lib.hid o1
  clear hb3 k1 k2 k3 k4 o1 hset hown1 hown2 hg1 hat1 ha hb2 c5 f5 y0 y0' D1 D2 L1 X1 Z1 O1
  have c6 := L3.out.c 6 _ rfl
  have f6 := L3.out.f 6
  have y0 := L3.out.lt
  go_upto_region 4 with (at_builtin; go_loud (refine wpList_append_sl _ rfl (.tmp 19) (.tmp 21) 35 rfl intR (q + 1 + 1 + 1 + 1) 3 _ 8 Tryz.underlying35 infoJ rfl (by decide) _ [] rfl (Own.empty _ _ _ (by have := O3.out.lt; omega)) _ s.waiting rfl (HR.out.ws.up (bal D3.out)) (by simp; omega) (by decide) (by have := O3.out.lt; simp; omega) (fun w' _ cs y h => intR_flat _ _ _ _ h) ?_; intro v1 w2 hown1 hg1 hat1; have hb2 := (ba w3 (.cells #[] 3)).grown hg1 (ba w3 (.cells #[] 3)).size (fun j hj => by cases hj; exact Nat.le_refl _); obtain ⟨b, bc, rfl, hb9⟩ := own_app hown1 hat1 (by simp); replace c6 := cell_later hb2 c6; replace f6 := (L3.out.later hb2).f 6; have y0' : q < w2.heap.size := Nat.lt_of_lt_of_le y0 hb2.size))
  have hab : a < b := by have h1 := (P3.out.lt a rfl).2; have h2 : w3.heap.size ≤ b := hb9; omega
  have hgb : q + 1 + 1 + 1 + 1 ≤ b := by omega
  have D4 := Lib.hid (D3.out.trans (hb2.mono D3.out.size))
  have hset := grownBy_set w2 q 6 (.slice (some ⟨b, 0, none⟩) s.waiting.length bc)
  have hown2 := hown1
  simp only [List.nil_append] at hown2 ⊢
  refine at_world (fun w => AfO W w q a ac b bc F.V F.vc s op rp)
    ⟨D4.out.grown hset D4.out.size (fun j hj => by injection hj with hj; omega), hWq, (L3.out.later hb2).set1, (X3.out.later hb2).grown hset (fun e => by injection e with e; omega), (Z3.out.later hb2).grown hset (fun e => by injection e with e; omega), (O3.out.later hb2).grown hset (fun e => by injection e with e; omega), (P3.out.up hb2).kept hset (fun i hi e => by cases hi; injection e with e; dsimp only at e; omega) (fun _ _ h => h),
      hown2.kept hset (fun i hi e => by cases hi; injection e with e; dsimp only at e; omega) (fun _ _ h => h), by omega, HR.out.vs, HR.out.bv, HR.out.bn⟩ fun w5 R5 => ?_
  have RR := Lib.hid R5
  clear R5 hset hown1 hown2 hg1 hat1 hb9 hb2 c6 f6 y0 y0' D3 D4 L3 X3 Z3 O3 P3 hga hgb hab hWq HQ
  have kk := RR.out.oc
  have o0 := kk.c 0 _ rfl
  have o1 := kk.c 1 _ rfl
  have o2 := kk.c 2 _ rfl
  have o3 := kk.c 3 _ rfl
  have o4 := kk.c 4 _ rfl
  have o5 := kk.c 5 _ rfl
  have o6 := kk.c 6 _ rfl
  have o7 := kk.c 7 _ rfl
  have o8 := kk.c 8 _ rfl
  have o9 := kk.c 9 _ rfl
  have o10 := kk.c 10 _ rfl
  have o11 := kk.c 11 _ rfl
  have yo := kk.lt
  clear kk
  rw [HK.out] at o0
  have CS' := CS
  rw [hs, HK.out] at CS'
  go_wp2_with fail
  refine (CS'.out _).mono ?_
  rintro e w7 ⟨rfl, hb7⟩
  have R7 := Lib.hid (RR.out.up hb7)
  clear o0 o1 o2 o3 o4 o5 o6 o7 o8 o9 o10 o11 yo hb7 CS CS'
  have kk := R7.out.oc
  have o0 := kk.c 0 _ rfl
  have yo := kk.lt
  clear kk
  rw [HK.out] at o0
  have kk := R7.out.cs
  have c5 := kk.c 5 _ rfl
  have yc := kk.lt
  clear kk
  dsimp only [cpF] at c5
  obtain ⟨sc, ⟨rfl, hz9⟩, hcs, fd⟩ := R7.out.ss.cell_ hlt
  have m0 := hcs 0 _ rfl
  have m1 := hcs 1 _ rfl
  have m2 := hcs 2 _ rfl
  have m3 := hcs 3 _ rfl
  have m4 := hcs 4 _ rfl
  have m5 := hcs 5 _ rfl
  simp only [seR, Nat.add_zero] at m0 m1 m2 m3 m4 m5
  clear hcs fd hz9
  have ya := R7.out.ga.2
  go_upto_region 28 with fail
  go_big_region
  all_goals
    clear o0 c5 m0 m1 m2 m3 m4 m5 yo yc ya
    refine at_world (fun w => Below w7.heap.size w7 w ∧ Cells w w7.heap.size [.bool false, .bool false, .int .u32 0, .int .i64 0, .int .u64 s.seats[k].serial, .int .u64 s.seats[k].epoch]) ⟨bdd (ba _ _), (Cells.newS _ _ _ _ rfl).drew⟩ fun w8 ⟨hb8, k8⟩ => ?_
    have HB8 := Lib.hid hb8
    have K8 := Lib.hid k8
    clear hb8 k8
    have kk := (R7.out.up HB8.out).oc
    have o0 := kk.c 0 _ rfl
    have o1 := kk.c 1 _ rfl
    have o6 := kk.c 6 _ rfl
    have yo := kk.lt
    clear kk
    rw [HK.out] at o0
    have kk := K8.out
    have n0 := kk.c 0 _ rfl
    have n1 := kk.c 1 _ rfl
    have n2 := kk.c 2 _ rfl
    have n3 := kk.c 3 _ rfl
    have n4 := kk.c 4 _ rfl
    have n5 := kk.c 5 _ rfl
    have p0 := kk.f 0
    have p1 := kk.f 1
    have p2 := kk.f 2
    have p3 := kk.f 3
    have p4 := kk.f 4
    have p5 := kk.f 5
    have yn := kk.lt
    clear kk
    go_upto_region 36 with fail
    clear n0 n1 n2 n3 n4 n5 p0 p1 p2 p3 p4 p5 yn o0 o1 o6 yo
    refine at_world (fun w => Below w7.heap.size w7 w ∧ Cells w w7.heap.size (seCells (freeS s.seats[k]))) ⟨HB8.out, K8.out⟩ fun w9 ⟨hb9, k9⟩ => ?_
    have R9 := Lib.hid (R7.out.up hb9)
    have K9 := Lib.hid k9
    clear hb9 k9 HB8 K8
    have kk := R9.out.cs
    have c5 := kk.c 5 _ rfl
    have yc := kk.lt
    clear kk
    dsimp only [cpF] at c5
    have kk := K9.out
    have n0 := kk.c 0 _ rfl
    have n1 := kk.c 1 _ rfl
    have n2 := kk.c 2 _ rfl
    have n3 := kk.c 3 _ rfl
    have n4 := kk.c 4 _ rfl
    have n5 := kk.c 5 _ rfl
    have yn := kk.lt
    clear kk
    dsimp only [freeS] at n0 n1 n2 n3 n4 n5
    obtain ⟨sc, ⟨rfl, hz9⟩, hcs, fd⟩ := R9.out.ss.cell_ hlt
    have m0 := hcs 0 _ rfl
    have m1 := hcs 1 _ rfl
    have m2 := hcs 2 _ rfl
    have m3 := hcs 3 _ rfl
    have m4 := hcs 4 _ rfl
    have m5 := hcs 5 _ rfl
    simp only [seR, Nat.add_zero] at m0 m1 m2 m3 m4 m5
    have f0 := fd (k * 6)
    have f1 := fd (k * 6 + 1)
    have f2 := fd (k * 6 + 2)
    have f3 := fd (k * 6 + 3)
    have f4 := fd (k * 6 + 4)
    have f5 := fd (k * 6 + 5)
    clear hcs fd hz9
    have ya := R9.out.ga.2
    go_upto_region 37 with fail
    have RS := R9.out.putSeat hlt (x := freeS s.seats[k]) ⟨by simp [freeS, U32], by simp [freeS, Bd], HX.out.1, HX.out.2⟩
    simp only [putAt, seCells, freeS, Nat.add_assoc, Nat.reduceAdd] at RS
    refine at_world (fun w => AfO W w q a ac b bc F.V F.vc { s with seats := s.seats.set k (freeS s.seats[k]) } op rp) RS fun w10 RS => ?_
    have RT := RS
    clear RS R9 K9 R7 RR c5 yc n0 n1 n2 n3 n4 n5 yn m0 m1 m2 m3 m4 m5 f0 f1 f2 f3 f4 f5 ya
    obtain ⟨s', hs'⟩ : ∃ s' : Au, s' = { s with seats := s.seats.set k (freeS s.seats[k]) } := ⟨_, rfl⟩
    rw [← hs'] at RT
    have HL2 := Lib.hid (hL.out.trans hs'.symm)
    clear hs' hL
    have RU := Lib.hid RT
    clear RT
    have kk := RU.out.cs
    have c0 := kk.c 0 _ rfl
    have c1 := kk.c 1 _ rfl
    have c2 := kk.c 2 _ rfl
    have c3 := kk.c 3 _ rfl
    have c4 := kk.c 4 _ rfl
    have c5 := kk.c 5 _ rfl
    have c6 := kk.c 6 _ rfl
    have yc := kk.lt
    clear kk
    dsimp only [cpF] at c3 c5 c6
    have kk := RU.out.rs
    have d0 := kk.c 0 _ rfl
    have d1 := kk.c 1 _ rfl
    have d2 := kk.c 2 _ rfl
    have d3 := kk.c 3 _ rfl
    have d4 := kk.c 4 _ rfl
    have d5 := kk.c 5 _ rfl
    have d6 := kk.c 6 _ rfl
    have e0 := kk.f 0
    have e1 := kk.f 1
    have e2 := kk.f 2
    have e3 := kk.f 3
    have e4 := kk.f 4
    have e5 := kk.f 5
    have e6 := kk.f 6
    have yd := kk.lt
    clear kk
    go_wp2_with fail
    refine at_world (fun w => Below W.heap.size W w ∧ Cells w (q + 1 + 1) (auCells (cpF F.V F.vc a ac b bc) s') ∧ IsAu w (cpF F.V F.vc a ac b bc) s' ∧ Own seR 75 W.heap.size w (.slice (some ⟨a, 0, none⟩) (s').seats.length ac) (s').seats ∧ Own intR 3 W.heap.size w (.slice (some ⟨b, 0, none⟩) (s').waiting.length bc) (s').waiting) RU.out.out fun w9 ⟨hb9, k9, is9, p9, o9⟩ => ?_
    have g0 := k9.c 0 _ rfl
    have g1 := k9.c 1 _ rfl
    have g2 := k9.c 2 _ rfl
    have g3 := k9.c 3 _ rfl
    have g4 := k9.c 4 _ rfl
    have g5 := k9.c 5 _ rfl
    have g6 := k9.c 6 _ rfl
    dsimp only [cpF] at g3 g5 g6
    rw [HL2.out]
    exact bodyPost_ret (v := auV (cpF F.V F.vc a ac b bc) s') (by simp [results, Tryz.results23, go_sem, g0, g1, g2, g3, g4, g5, g6, auV, cpF]) rfl ⟨_, rfl, is9, hb9, .inr ⟨rfl, rfl, by first | rfl | (rw [← HL2.out]; exact learn_ve s op rp), p9, o9⟩⟩

set_option maxRecDepth 100000 in
set_option maxHeartbeats 16000000 in
theorem rafter7_any {W : World} {F : Frm} {s : Au} {op : MOp} {rp : MRp} (R : IsAu W F s) (ok : Aok s) (ho : OpOk op) (hr : RpOk rp) (hk : op.kind = 7) {k : Nat} (hs : seatA op = (k : Int)) (hlt : k < s.seats.length) : Calls Tryz.prog 23 #[auV F s, stV op rp] W (fun e w' => ∃ F', e = .returned (auV F' (learnA s op rp)) ∧ IsAu w' F' (learnA s op rp) ∧ Below W.heap.size W w' ∧ StepOwn W F s F' (learnA s op rp) w') := by
  have hlen := ok.len
  have hwl : s.waiting.length ≤ 8 := by
    have h1 := ok.hw
    have h2 := (checkV_ok ok.hc).1.1
    omega
  have HR := Lib.hid R
  have HOR := Lib.hid (And.intro ho hr)
  have CS := Lib.hid (fun w => rspoken_any op w ho.2.2.2.2.2.2.2.1.1)
  unfold opV at CS
  have hL := Lib.hid (show learnA s op rp = { s with seats := s.seats.set k (freeS s.seats[k]) } by simp [learnA, isB, hk, hs, seatMod, List.getElem?_eq_getElem hlt])
  have HX := Lib.hid (show U64 s.seats[k].serial ∧ U64 s.seats[k].epoch by
    obtain ⟨_, _, _, _, _, _, _, _, _, _, _, _, hx2, hx3⟩ := R.ss.atE hlt
    exact ⟨hx2, hx3⟩)
  have hk0 : (0 : Int) ≤ (k : Int) := by omega
  have hk1 : (k : Int) < (s.seats.length : Int) := by omega
  have hk2 : decide ((k : Int) < 0) = false := decide_eq_false (by omega)
  have HK := Lib.hid hk
  clear R ok ho hr hk
  unfold auV stV
  go_enter Tryz.func23, Tryz.ntmps23
  go_upto_region 2 with fail
  obtain ⟨q, hq⟩ : ∃ q, W.heap.size = q := ⟨_, rfl⟩
  rw [hq]
  refine at_world (fun w => Below W.heap.size W w ∧ Cells w q (auCells F s) ∧ Cells w (q + 1) (opCells op ++ rpCells rp) ∧ Cells w (q + 1 + 1) zeroAuC ∧ Cells w (q + 1 + 1 + 1) (opCells op))
    (four_boxes hq (auCells F s) (opCells op ++ rpCells rp) zeroAuC (opCells op) _ _ _ _) fun w1 ⟨hb1, k1, k2, k3, k4⟩ => ?_
  have D1 := Lib.hid hb1
  have L1 := Lib.hid k1
  have X1 := Lib.hid k2
  have Z1 := Lib.hid k3
  have O1 := Lib.hid k4
  have HQ := Lib.hid hq
  clear hb1 k1 k2 k3 k4 hq
  have c5 := L1.out.c 5 _ rfl
  have f5 := L1.out.f 5
  have y0 := L1.out.lt
  go_upto_region 3 with (at_builtin; go_loud (refine wpList_append_sl _ rfl (.tmp 14) (.tmp 16) 34 rfl seR (q + 1 + 1 + 1 + 1) 75 _ 32 Tryz.underlying34 infoE rfl (by decide) _ [] rfl (Own.empty _ _ _ (by have := O1.out.lt; omega)) _ s.seats rfl (HR.out.ss.up (bal D1.out)) (by simp; omega) (by decide) (by have := O1.out.lt; simp; omega) (fun w' _ cs y h => seR_flat _ _ _ _ h) ?_; intro v1 w2 hown1 hg1 hat1; have hb2 := (ba w1 (.cells #[] 75)).grown hg1 (ba w1 (.cells #[] 75)).size (fun j hj => by cases hj; exact Nat.le_refl _); obtain ⟨a, ac, rfl, ha⟩ := own_app hown1 hat1 (by simp); replace c5 := cell_later hb2 c5; replace f5 := (L1.out.later hb2).f 5; have y0' : q < w2.heap.size := Nat.lt_of_lt_of_le y0 hb2.size))
  have hga : q + 1 + 1 + 1 + 1 ≤ a := by have h1 := O1.out.lt; have h2 : w1.heap.size ≤ a := ha; omega
  have D2 := Lib.hid (D1.out.trans (hb2.mono D1.out.size))
  have hset := grownBy_set w2 q 5 (.slice (some ⟨a, 0, none⟩) s.seats.length ac)
  have hWq : W.heap.size ≤ q := by have := HQ.out; omega
  have hown2 := hown1
  simp only [List.nil_append] at hown2 ⊢
  refine at_world (fun w => Below W.heap.size W w ∧ Cells w q [.int .i64 s.ve.shards, .int .i64 s.ve.ttl, .int .i64 s.ve.session, .slice F.V s.ve.secs.length F.vc, .int .i64 s.now, .slice (some ⟨a, 0, none⟩) s.seats.length ac, .slice F.B s.waiting.length F.bc] ∧ Cells w (q + 1) (opCells op ++ rpCells rp) ∧ Cells w (q + 1 + 1) zeroAuC ∧ Cells w (q + 1 + 1 + 1) (opCells op) ∧ Own seR 75 (q + 1 + 1 + 1 + 1) w (.slice (some ⟨a, 0, none⟩) s.seats.length ac) s.seats)
    ⟨D2.out.grown hset D2.out.size (fun j hj => by injection hj with hj; omega), (L1.out.later hb2).set1, (X1.out.later hb2).grown hset (fun e => by injection e with e; omega), (Z1.out.later hb2).grown hset (fun e => by injection e with e; omega), (O1.out.later hb2).grown hset (fun e => by injection e with e; omega), hown2.kept hset (fun i hi e => by cases hi; injection e with e; dsimp only at e; omega) (fun _ _ h => h)⟩ fun w3 ⟨hb3, k1, k2, k3, k4, o1⟩ => ?_
  have D3 := Lib.hid hb3
  have L3 := Lib.hid k1
  have X3 := Lib.hid k2
  have Z3 := Lib.hid k3
  have O3 := Lib.hid k4
  have P3 := Lib.hid o1
  clear hb3 k1 k2 k3 k4 o1 hset hown1 hown2 hg1 hat1 ha hb2 c5 f5 y0 y0' D1 D2 L1 X1 Z1 O1
  have c6 := L3.out.c 6 _ rfl
  have f6 := L3.out.f 6
  have y0 := L3.out.lt
  go_upto_region 4 with (at_builtin; go_loud (refine wpList_append_sl _ rfl (.tmp 19) (.tmp 21) 35 rfl intR (q + 1 + 1 + 1 + 1) 3 _ 8 Tryz.underlying35 infoJ rfl (by decide) _ [] rfl (Own.empty _ _ _ (by have := O3.out.lt; omega)) _ s.waiting rfl (HR.out.ws.up (bal D3.out)) (by simp; omega) (by decide) (by have := O3.out.lt; simp; omega) (fun w' _ cs y h => intR_flat _ _ _ _ h) ?_; intro v1 w2 hown1 hg1 hat1; have hb2 := (ba w3 (.cells #[] 3)).grown hg1 (ba w3 (.cells #[] 3)).size (fun j hj => by cases hj; exact Nat.le_refl _); obtain ⟨b, bc, rfl, hb9⟩ := own_app hown1 hat1 (by simp); replace c6 := cell_later hb2 c6; replace f6 := (L3.out.later hb2).f 6; have y0' : q < w2.heap.size := Nat.lt_of_lt_of_le y0 hb2.size))
  have hab : a < b := by have h1 := (P3.out.lt a rfl).2; have h2 : w3.heap.size ≤ b := hb9; omega
  have hgb : q + 1 + 1 + 1 + 1 ≤ b := by omega
  have D4 := Lib.hid (D3.out.trans (hb2.mono D3.out.size))
  have hset := grownBy_set w2 q 6 (.slice (some ⟨b, 0, none⟩) s.waiting.length bc)
  have hown2 := hown1
  simp only [List.nil_append] at hown2 ⊢
  refine at_world (fun w => AfO W w q a ac b bc F.V F.vc s op rp)
    ⟨D4.out.grown hset D4.out.size (fun j hj => by injection hj with hj; omega), hWq, (L3.out.later hb2).set1, (X3.out.later hb2).grown hset (fun e => by injection e with e; omega), (Z3.out.later hb2).grown hset (fun e => by injection e with e; omega), (O3.out.later hb2).grown hset (fun e => by injection e with e; omega), (P3.out.up hb2).kept hset (fun i hi e => by cases hi; injection e with e; dsimp only at e; omega) (fun _ _ h => h),
      hown2.kept hset (fun i hi e => by cases hi; injection e with e; dsimp only at e; omega) (fun _ _ h => h), by omega, HR.out.vs, HR.out.bv, HR.out.bn⟩ fun w5 R5 => ?_
  have RR := Lib.hid R5
  clear R5 hset hown1 hown2 hg1 hat1 hb9 hb2 c6 f6 y0 y0' D3 D4 L3 X3 Z3 O3 P3 hga hgb hab hWq HQ
  have kk := RR.out.oc
  have o0 := kk.c 0 _ rfl
  have o1 := kk.c 1 _ rfl
  have o2 := kk.c 2 _ rfl
  have o3 := kk.c 3 _ rfl
  have o4 := kk.c 4 _ rfl
  have o5 := kk.c 5 _ rfl
  have o6 := kk.c 6 _ rfl
  have o7 := kk.c 7 _ rfl
  have o8 := kk.c 8 _ rfl
  have o9 := kk.c 9 _ rfl
  have o10 := kk.c 10 _ rfl
  have o11 := kk.c 11 _ rfl
  have yo := kk.lt
  clear kk
  rw [HK.out] at o0
  have CS' := CS
  rw [hs, HK.out] at CS'
  go_wp2_with fail
  refine (CS'.out _).mono ?_
  rintro e w7 ⟨rfl, hb7⟩
  have R7 := Lib.hid (RR.out.up hb7)
  clear o0 o1 o2 o3 o4 o5 o6 o7 o8 o9 o10 o11 yo hb7 CS CS'
  have kk := R7.out.oc
  have o0 := kk.c 0 _ rfl
  have yo := kk.lt
  clear kk
  rw [HK.out] at o0
  have kk := R7.out.cs
  have c5 := kk.c 5 _ rfl
  have yc := kk.lt
  clear kk
  dsimp only [cpF] at c5
  obtain ⟨sc, ⟨rfl, hz9⟩, hcs, fd⟩ := R7.out.ss.cell_ hlt
  have m0 := hcs 0 _ rfl
  have m1 := hcs 1 _ rfl
  have m2 := hcs 2 _ rfl
  have m3 := hcs 3 _ rfl
  have m4 := hcs 4 _ rfl
  have m5 := hcs 5 _ rfl
  simp only [seR, Nat.add_zero] at m0 m1 m2 m3 m4 m5
  clear hcs fd hz9
  have ya := R7.out.ga.2
  go_upto_region 28 with fail
  go_big_region
  all_goals
    clear o0 c5 m0 m1 m2 m3 m4 m5 yo yc ya
    refine at_world (fun w => Below w7.heap.size w7 w ∧ Cells w w7.heap.size [.bool false, .bool false, .int .u32 0, .int .i64 0, .int .u64 s.seats[k].serial, .int .u64 s.seats[k].epoch]) ⟨bdd (ba _ _), (Cells.newS _ _ _ _ rfl).drew⟩ fun w8 ⟨hb8, k8⟩ => ?_
    have HB8 := Lib.hid hb8
    have K8 := Lib.hid k8
    clear hb8 k8
    have kk := (R7.out.up HB8.out).oc
    have o0 := kk.c 0 _ rfl
    have o1 := kk.c 1 _ rfl
    have o6 := kk.c 6 _ rfl
    have yo := kk.lt
    clear kk
    rw [HK.out] at o0
    have kk := K8.out
    have n0 := kk.c 0 _ rfl
    have n1 := kk.c 1 _ rfl
    have n2 := kk.c 2 _ rfl
    have n3 := kk.c 3 _ rfl
    have n4 := kk.c 4 _ rfl
    have n5 := kk.c 5 _ rfl
    have p0 := kk.f 0
    have p1 := kk.f 1
    have p2 := kk.f 2
    have p3 := kk.f 3
    have p4 := kk.f 4
    have p5 := kk.f 5
    have yn := kk.lt
    clear kk
    go_upto_region 36 with fail
    clear n0 n1 n2 n3 n4 n5 p0 p1 p2 p3 p4 p5 yn o0 o1 o6 yo
    refine at_world (fun w => Below w7.heap.size w7 w ∧ Cells w w7.heap.size (seCells (freeS s.seats[k]))) ⟨HB8.out, K8.out⟩ fun w9 ⟨hb9, k9⟩ => ?_
    have R9 := Lib.hid (R7.out.up hb9)
    have K9 := Lib.hid k9
    clear hb9 k9 HB8 K8
    have kk := R9.out.cs
    have c5 := kk.c 5 _ rfl
    have yc := kk.lt
    clear kk
    dsimp only [cpF] at c5
    have kk := K9.out
    have n0 := kk.c 0 _ rfl
    have n1 := kk.c 1 _ rfl
    have n2 := kk.c 2 _ rfl
    have n3 := kk.c 3 _ rfl
    have n4 := kk.c 4 _ rfl
    have n5 := kk.c 5 _ rfl
    have yn := kk.lt
    clear kk
    dsimp only [freeS] at n0 n1 n2 n3 n4 n5
    obtain ⟨sc, ⟨rfl, hz9⟩, hcs, fd⟩ := R9.out.ss.cell_ hlt
    have m0 := hcs 0 _ rfl
    have m1 := hcs 1 _ rfl
    have m2 := hcs 2 _ rfl
    have m3 := hcs 3 _ rfl
    have m4 := hcs 4 _ rfl
    have m5 := hcs 5 _ rfl
    simp only [seR, Nat.add_zero] at m0 m1 m2 m3 m4 m5
    have f0 := fd (k * 6)
    have f1 := fd (k * 6 + 1)
    have f2 := fd (k * 6 + 2)
    have f3 := fd (k * 6 + 3)
    have f4 := fd (k * 6 + 4)
    have f5 := fd (k * 6 + 5)
    clear hcs fd hz9
    have ya := R9.out.ga.2
    go_upto_region 37 with fail
    have RS := R9.out.putSeat hlt (x := freeS s.seats[k]) ⟨by simp [freeS, U32], by simp [freeS, Bd], HX.out.1, HX.out.2⟩
    simp only [putAt, seCells, freeS, Nat.add_assoc, Nat.reduceAdd] at RS
    refine at_world (fun w => AfO W w q a ac b bc F.V F.vc { s with seats := s.seats.set k (freeS s.seats[k]) } op rp) RS fun w10 RS => ?_
    have RT := RS
    clear RS R9 K9 R7 RR c5 yc n0 n1 n2 n3 n4 n5 yn m0 m1 m2 m3 m4 m5 f0 f1 f2 f3 f4 f5 ya
    obtain ⟨s', hs'⟩ : ∃ s' : Au, s' = { s with seats := s.seats.set k (freeS s.seats[k]) } := ⟨_, rfl⟩
    rw [← hs'] at RT
    have HL2 := Lib.hid (hL.out.trans hs'.symm)
    clear hs' hL
    have RU := Lib.hid RT
    clear RT
    have kk := RU.out.cs
    have c0 := kk.c 0 _ rfl
    have c1 := kk.c 1 _ rfl
    have c2 := kk.c 2 _ rfl
    have c3 := kk.c 3 _ rfl
    have c4 := kk.c 4 _ rfl
    have c5 := kk.c 5 _ rfl
    have c6 := kk.c 6 _ rfl
    have yc := kk.lt
    clear kk
    dsimp only [cpF] at c3 c5 c6
    have kk := RU.out.rs
    have d0 := kk.c 0 _ rfl
    have d1 := kk.c 1 _ rfl
    have d2 := kk.c 2 _ rfl
    have d3 := kk.c 3 _ rfl
    have d4 := kk.c 4 _ rfl
    have d5 := kk.c 5 _ rfl
    have d6 := kk.c 6 _ rfl
    have e0 := kk.f 0
    have e1 := kk.f 1
    have e2 := kk.f 2
    have e3 := kk.f 3
    have e4 := kk.f 4
    have e5 := kk.f 5
    have e6 := kk.f 6
    have yd := kk.lt
    clear kk
    go_wp2_with fail
    refine at_world (fun w => Below W.heap.size W w ∧ Cells w (q + 1 + 1) (auCells (cpF F.V F.vc a ac b bc) s') ∧ IsAu w (cpF F.V F.vc a ac b bc) s' ∧ Own seR 75 W.heap.size w (.slice (some ⟨a, 0, none⟩) (s').seats.length ac) (s').seats ∧ Own intR 3 W.heap.size w (.slice (some ⟨b, 0, none⟩) (s').waiting.length bc) (s').waiting) RU.out.out fun w9 ⟨hb9, k9, is9, p9, o9⟩ => ?_
    have g0 := k9.c 0 _ rfl
    have g1 := k9.c 1 _ rfl
    have g2 := k9.c 2 _ rfl
    have g3 := k9.c 3 _ rfl
    have g4 := k9.c 4 _ rfl
    have g5 := k9.c 5 _ rfl
    have g6 := k9.c 6 _ rfl
    dsimp only [cpF] at g3 g5 g6
    rw [HL2.out]
    exact bodyPost_ret (v := auV (cpF F.V F.vc a ac b bc) s') (by simp [results, Tryz.results23, go_sem, g0, g1, g2, g3, g4, g5, g6, auV, cpF]) rfl ⟨_, rfl, is9, hb9, .inr ⟨rfl, rfl, by first | rfl | (rw [← HL2.out]; exact learn_ve s op rp), p9, o9⟩⟩

end Go.Proofs.YtcomfhigbjkoeaaGreatDoor

namespace Go.Proofs.YtcomfhigbjkoeaaGreatDoor
open Go.RowKit


set_option maxRecDepth 100000 in
set_option maxHeartbeats 16000000 in
theorem rafter8_any {W : World} {F : Frm} {s : Au} {op : MOp} {rp : MRp} (R : IsAu W F s) (ok : Aok s) (ho : OpOk op) (hr : RpOk rp) (hk : op.kind = 8) {k : Nat} (hs : seatA op = (k : Int)) (hlt : k < s.seats.length) (hne : s.seats[k].epoch < 18446744073709551615) : Calls Tryz.prog 23 #[auV F s, stV op rp] W (fun e w' => ∃ F', e = .returned (auV F' (learnA s op rp)) ∧ IsAu w' F' (learnA s op rp) ∧ Below W.heap.size W w' ∧ StepOwn W F s F' (learnA s op rp) w') := by
  have hlen := ok.len
  have hwl : s.waiting.length ≤ 8 := by
    have h1 := ok.hw
    have h2 := (checkV_ok ok.hc).1.1
    omega
  have HR := Lib.hid R
  have HOR := Lib.hid (And.intro ho hr)
  have CS := Lib.hid (fun w => rspoken_any op w ho.2.2.2.2.2.2.2.1.1)
  unfold opV at CS
  have hL := Lib.hid (show learnA s op rp = { s with seats := s.seats.set k (revS s.seats[k]) } by simp [learnA, isB, hk, hs, seatMod, List.getElem?_eq_getElem hlt])
  have HX := Lib.hid (show U64 s.seats[k].serial ∧ U64 s.seats[k].epoch by
    obtain ⟨_, _, _, _, _, _, _, _, _, _, _, _, hx2, hx3⟩ := R.ss.atE hlt
    exact ⟨hx2, hx3⟩)
  have hk0 : (0 : Int) ≤ (k : Int) := by omega
  have hk1 : (k : Int) < (s.seats.length : Int) := by omega
  have hk2 : decide ((k : Int) < 0) = false := decide_eq_false (by omega)
  have HK := Lib.hid hk
  clear R ok ho hr hk
  unfold auV stV
  go_enter Tryz.func23, Tryz.ntmps23
  go_upto_region 2 with fail
  obtain ⟨q, hq⟩ : ∃ q, W.heap.size = q := ⟨_, rfl⟩
  rw [hq]
  refine at_world (fun w => Below W.heap.size W w ∧ Cells w q (auCells F s) ∧ Cells w (q + 1) (opCells op ++ rpCells rp) ∧ Cells w (q + 1 + 1) zeroAuC ∧ Cells w (q + 1 + 1 + 1) (opCells op))
    (four_boxes hq (auCells F s) (opCells op ++ rpCells rp) zeroAuC (opCells op) _ _ _ _) fun w1 ⟨hb1, k1, k2, k3, k4⟩ => ?_
  have D1 := Lib.hid hb1
  have L1 := Lib.hid k1
  have X1 := Lib.hid k2
  have Z1 := Lib.hid k3
  have O1 := Lib.hid k4
  have HQ := Lib.hid hq
  clear hb1 k1 k2 k3 k4 hq
  have c5 := L1.out.c 5 _ rfl
  have f5 := L1.out.f 5
  have y0 := L1.out.lt
  go_upto_region 3 with (at_builtin; go_loud (refine wpList_append_sl _ rfl (.tmp 14) (.tmp 16) 34 rfl seR (q + 1 + 1 + 1 + 1) 75 _ 32 Tryz.underlying34 infoE rfl (by decide) _ [] rfl (Own.empty _ _ _ (by have := O1.out.lt; omega)) _ s.seats rfl (HR.out.ss.up (bal D1.out)) (by simp; omega) (by decide) (by have := O1.out.lt; simp; omega) (fun w' _ cs y h => seR_flat _ _ _ _ h) ?_; intro v1 w2 hown1 hg1 hat1; have hb2 := (ba w1 (.cells #[] 75)).grown hg1 (ba w1 (.cells #[] 75)).size (fun j hj => by cases hj; exact Nat.le_refl _); obtain ⟨a, ac, rfl, ha⟩ := own_app hown1 hat1 (by simp); replace c5 := cell_later hb2 c5; replace f5 := (L1.out.later hb2).f 5; have y0' : q < w2.heap.size := Nat.lt_of_lt_of_le y0 hb2.size))
  have hga : q + 1 + 1 + 1 + 1 ≤ a := by have h1 := O1.out.lt; have h2 : w1.heap.size ≤ a := ha; omega
  have D2 := Lib.hid (D1.out.trans (hb2.mono D1.out.size))
  have hset := grownBy_set w2 q 5 (.slice (some ⟨a, 0, none⟩) s.seats.length ac)
  have hWq : W.heap.size ≤ q := by have := HQ.out; omega
  have hown2 := hown1
  simp only [List.nil_append] at hown2 ⊢
  refine at_world (fun w => Below W.heap.size W w ∧ Cells w q [.int .i64 s.ve.shards, .int .i64 s.ve.ttl, .int .i64 s.ve.session, .slice F.V s.ve.secs.length F.vc, .int .i64 s.now, .slice (some ⟨a, 0, none⟩) s.seats.length ac, .slice F.B s.waiting.length F.bc] ∧ Cells w (q + 1) (opCells op ++ rpCells rp) ∧ Cells w (q + 1 + 1) zeroAuC ∧ Cells w (q + 1 + 1 + 1) (opCells op) ∧ Own seR 75 (q + 1 + 1 + 1 + 1) w (.slice (some ⟨a, 0, none⟩) s.seats.length ac) s.seats)
    ⟨D2.out.grown hset D2.out.size (fun j hj => by injection hj with hj; omega), (L1.out.later hb2).set1, (X1.out.later hb2).grown hset (fun e => by injection e with e; omega), (Z1.out.later hb2).grown hset (fun e => by injection e with e; omega), (O1.out.later hb2).grown hset (fun e => by injection e with e; omega), hown2.kept hset (fun i hi e => by cases hi; injection e with e; dsimp only at e; omega) (fun _ _ h => h)⟩ fun w3 ⟨hb3, k1, k2, k3, k4, o1⟩ => ?_
  have D3 := Lib.hid hb3
  have L3 := Lib.hid k1
  have X3 := Lib.hid k2
  have Z3 := Lib.hid k3
  have O3 := Lib.hid k4
  have P3 := Lib.hid o1
  clear hb3 k1 k2 k3 k4 o1 hset hown1 hown2 hg1 hat1 ha hb2 c5 f5 y0 y0' D1 D2 L1 X1 Z1 O1
  have c6 := L3.out.c 6 _ rfl
  have f6 := L3.out.f 6
  have y0 := L3.out.lt
  go_upto_region 4 with (at_builtin; go_loud (refine wpList_append_sl _ rfl (.tmp 19) (.tmp 21) 35 rfl intR (q + 1 + 1 + 1 + 1) 3 _ 8 Tryz.underlying35 infoJ rfl (by decide) _ [] rfl (Own.empty _ _ _ (by have := O3.out.lt; omega)) _ s.waiting rfl (HR.out.ws.up (bal D3.out)) (by simp; omega) (by decide) (by have := O3.out.lt; simp; omega) (fun w' _ cs y h => intR_flat _ _ _ _ h) ?_; intro v1 w2 hown1 hg1 hat1; have hb2 := (ba w3 (.cells #[] 3)).grown hg1 (ba w3 (.cells #[] 3)).size (fun j hj => by cases hj; exact Nat.le_refl _); obtain ⟨b, bc, rfl, hb9⟩ := own_app hown1 hat1 (by simp); replace c6 := cell_later hb2 c6; replace f6 := (L3.out.later hb2).f 6; have y0' : q < w2.heap.size := Nat.lt_of_lt_of_le y0 hb2.size))
  have hab : a < b := by have h1 := (P3.out.lt a rfl).2; have h2 : w3.heap.size ≤ b := hb9; omega
  have hgb : q + 1 + 1 + 1 + 1 ≤ b := by omega
  have D4 := Lib.hid (D3.out.trans (hb2.mono D3.out.size))
  have hset := grownBy_set w2 q 6 (.slice (some ⟨b, 0, none⟩) s.waiting.length bc)
  have hown2 := hown1
  simp only [List.nil_append] at hown2 ⊢
  refine at_world (fun w => AfO W w q a ac b bc F.V F.vc s op rp)
    ⟨D4.out.grown hset D4.out.size (fun j hj => by injection hj with hj; omega), hWq, (L3.out.later hb2).set1, (X3.out.later hb2).grown hset (fun e => by injection e with e; omega), (Z3.out.later hb2).grown hset (fun e => by injection e with e; omega), (O3.out.later hb2).grown hset (fun e => by injection e with e; omega), (P3.out.up hb2).kept hset (fun i hi e => by cases hi; injection e with e; dsimp only at e; omega) (fun _ _ h => h),
      hown2.kept hset (fun i hi e => by cases hi; injection e with e; dsimp only at e; omega) (fun _ _ h => h), by omega, HR.out.vs, HR.out.bv, HR.out.bn⟩ fun w5 R5 => ?_
  have RR := Lib.hid R5
  clear R5 hset hown1 hown2 hg1 hat1 hb9 hb2 c6 f6 y0 y0' D3 D4 L3 X3 Z3 O3 P3 hga hgb hab hWq HQ
  have kk := RR.out.oc
  have o0 := kk.c 0 _ rfl
  have o1 := kk.c 1 _ rfl
  have o2 := kk.c 2 _ rfl
  have o3 := kk.c 3 _ rfl
  have o4 := kk.c 4 _ rfl
  have o5 := kk.c 5 _ rfl
  have o6 := kk.c 6 _ rfl
  have o7 := kk.c 7 _ rfl
  have o8 := kk.c 8 _ rfl
  have o9 := kk.c 9 _ rfl
  have o10 := kk.c 10 _ rfl
  have o11 := kk.c 11 _ rfl
  have yo := kk.lt
  clear kk
  rw [HK.out] at o0
  have CS' := CS
  rw [hs, HK.out] at CS'
  go_wp2_with fail
  refine (CS'.out _).mono ?_
  rintro e w7 ⟨rfl, hb7⟩
  have R7 := Lib.hid (RR.out.up hb7)
  clear o0 o1 o2 o3 o4 o5 o6 o7 o8 o9 o10 o11 yo hb7 CS CS'
  have kk := R7.out.oc
  have o0 := kk.c 0 _ rfl
  have yo := kk.lt
  clear kk
  rw [HK.out] at o0
  have kk := R7.out.cs
  have c5 := kk.c 5 _ rfl
  have yc := kk.lt
  clear kk
  dsimp only [cpF] at c5
  obtain ⟨sc, ⟨rfl, hz9⟩, hcs, fd⟩ := R7.out.ss.cell_ hlt
  have m0 := hcs 0 _ rfl
  have m1 := hcs 1 _ rfl
  have m2 := hcs 2 _ rfl
  have m3 := hcs 3 _ rfl
  have m4 := hcs 4 _ rfl
  have m5 := hcs 5 _ rfl
  simp only [seR, Nat.add_zero] at m0 m1 m2 m3 m4 m5
  clear hcs fd hz9
  have ya := R7.out.ga.2
  go_upto_region 28 with fail
  go_big_region
  all_goals
    clear o0 c5 m0 m1 m2 m3 m4 m5 yo yc ya
    refine at_world (fun w => Below w7.heap.size w7 w ∧ Cells w w7.heap.size [.bool false, .bool false, .int .u32 0, .int .i64 0, .int .u64 s.seats[k].serial, .int .u64 s.seats[k].epoch]) ⟨bdd (ba _ _), (Cells.newS _ _ _ _ rfl).drew⟩ fun w8 ⟨hb8, k8⟩ => ?_
    have HB8 := Lib.hid hb8
    have K8 := Lib.hid k8
    clear hb8 k8
    have kk := (R7.out.up HB8.out).oc
    have o0 := kk.c 0 _ rfl
    have o1 := kk.c 1 _ rfl
    have o6 := kk.c 6 _ rfl
    have yo := kk.lt
    clear kk
    rw [HK.out] at o0
    have kk := K8.out
    have n0 := kk.c 0 _ rfl
    have n1 := kk.c 1 _ rfl
    have n2 := kk.c 2 _ rfl
    have n3 := kk.c 3 _ rfl
    have n4 := kk.c 4 _ rfl
    have n5 := kk.c 5 _ rfl
    have p0 := kk.f 0
    have p1 := kk.f 1
    have p2 := kk.f 2
    have p3 := kk.f 3
    have p4 := kk.f 4
    have p5 := kk.f 5
    have yn := kk.lt
    clear kk
    have hwe : IntKind.u64.wrap (s.seats[k].epoch + 1) = s.seats[k].epoch + 1 := IntWalk.u64_in _ (by have := HX.out.2; unfold U64 at this; omega)
    go_upto_region 36 with fail
    clear hwe
    clear n0 n1 n2 n3 n4 n5 p0 p1 p2 p3 p4 p5 yn o0 o1 o6 yo
    refine at_world (fun w => Below w7.heap.size w7 w ∧ Cells w w7.heap.size (seCells (revS s.seats[k]))) ⟨HB8.out.setCell (p := ⟨w7.heap.size, 5, none⟩) (Nat.le_refl _) _, K8.out.set1⟩ fun w9 ⟨hb9, k9⟩ => ?_
    have R9 := Lib.hid (R7.out.up hb9)
    have K9 := Lib.hid k9
    clear hb9 k9 HB8 K8
    have kk := R9.out.cs
    have c5 := kk.c 5 _ rfl
    have yc := kk.lt
    clear kk
    dsimp only [cpF] at c5
    have kk := K9.out
    have n0 := kk.c 0 _ rfl
    have n1 := kk.c 1 _ rfl
    have n2 := kk.c 2 _ rfl
    have n3 := kk.c 3 _ rfl
    have n4 := kk.c 4 _ rfl
    have n5 := kk.c 5 _ rfl
    have yn := kk.lt
    clear kk
    dsimp only [revS] at n0 n1 n2 n3 n4 n5
    obtain ⟨sc, ⟨rfl, hz9⟩, hcs, fd⟩ := R9.out.ss.cell_ hlt
    have m0 := hcs 0 _ rfl
    have m1 := hcs 1 _ rfl
    have m2 := hcs 2 _ rfl
    have m3 := hcs 3 _ rfl
    have m4 := hcs 4 _ rfl
    have m5 := hcs 5 _ rfl
    simp only [seR, Nat.add_zero] at m0 m1 m2 m3 m4 m5
    have f0 := fd (k * 6)
    have f1 := fd (k * 6 + 1)
    have f2 := fd (k * 6 + 2)
    have f3 := fd (k * 6 + 3)
    have f4 := fd (k * 6 + 4)
    have f5 := fd (k * 6 + 5)
    clear hcs fd hz9
    have ya := R9.out.ga.2
    go_upto_region 37 with fail
    have RS := R9.out.putSeat hlt (x := revS s.seats[k]) ⟨by simp [revS, U32], by simp [revS, Bd], HX.out.1, by have := HX.out.2; unfold U64 at this ⊢; simp only [revS]; omega⟩
    simp only [putAt, seCells, revS, Nat.add_assoc, Nat.reduceAdd] at RS
    refine at_world (fun w => AfO W w q a ac b bc F.V F.vc { s with seats := s.seats.set k (revS s.seats[k]) } op rp) RS fun w10 RS => ?_
    have RT := RS
    clear RS R9 K9 R7 RR c5 yc n0 n1 n2 n3 n4 n5 yn m0 m1 m2 m3 m4 m5 f0 f1 f2 f3 f4 f5 ya
    obtain ⟨s', hs'⟩ : ∃ s' : Au, s' = { s with seats := s.seats.set k (revS s.seats[k]) } := ⟨_, rfl⟩
    rw [← hs'] at RT
    have HL2 := Lib.hid (hL.out.trans hs'.symm)
    clear hs' hL
    have RU := Lib.hid RT
    clear RT
    have kk := RU.out.cs
    have c0 := kk.c 0 _ rfl
    have c1 := kk.c 1 _ rfl
    have c2 := kk.c 2 _ rfl
    have c3 := kk.c 3 _ rfl
    have c4 := kk.c 4 _ rfl
    have c5 := kk.c 5 _ rfl
    have c6 := kk.c 6 _ rfl
    have yc := kk.lt
    clear kk
    dsimp only [cpF] at c3 c5 c6
    have kk := RU.out.rs
    have d0 := kk.c 0 _ rfl
    have d1 := kk.c 1 _ rfl
    have d2 := kk.c 2 _ rfl
    have d3 := kk.c 3 _ rfl
    have d4 := kk.c 4 _ rfl
    have d5 := kk.c 5 _ rfl
    have d6 := kk.c 6 _ rfl
    have e0 := kk.f 0
    have e1 := kk.f 1
    have e2 := kk.f 2
    have e3 := kk.f 3
    have e4 := kk.f 4
    have e5 := kk.f 5
    have e6 := kk.f 6
    have yd := kk.lt
    clear kk
    go_wp2_with fail
    refine at_world (fun w => Below W.heap.size W w ∧ Cells w (q + 1 + 1) (auCells (cpF F.V F.vc a ac b bc) s') ∧ IsAu w (cpF F.V F.vc a ac b bc) s' ∧ Own seR 75 W.heap.size w (.slice (some ⟨a, 0, none⟩) (s').seats.length ac) (s').seats ∧ Own intR 3 W.heap.size w (.slice (some ⟨b, 0, none⟩) (s').waiting.length bc) (s').waiting) RU.out.out fun w9 ⟨hb9, k9, is9, p9, o9⟩ => ?_
    have g0 := k9.c 0 _ rfl
    have g1 := k9.c 1 _ rfl
    have g2 := k9.c 2 _ rfl
    have g3 := k9.c 3 _ rfl
    have g4 := k9.c 4 _ rfl
    have g5 := k9.c 5 _ rfl
    have g6 := k9.c 6 _ rfl
    dsimp only [cpF] at g3 g5 g6
    rw [HL2.out]
    exact bodyPost_ret (v := auV (cpF F.V F.vc a ac b bc) s') (by simp [results, Tryz.results23, go_sem, g0, g1, g2, g3, g4, g5, g6, auV, cpF]) rfl ⟨_, rfl, is9, hb9, .inr ⟨rfl, rfl, by first | rfl | (rw [← HL2.out]; exact learn_ve s op rp), p9, o9⟩⟩

end Go.Proofs.YtcomfhigbjkoeaaGreatDoor

namespace Go.Proofs.YtcomfhigbjkoeaaGreatDoor
open Go.RowKit


set_option maxRecDepth 100000 in
set_option maxHeartbeats 16000000 in
theorem rafter5_any {W : World} {F : Frm} {s : Au} {op : MOp} {rp : MRp} (R : IsAu W F s) (ok : Aok s) (ho : OpOk op) (hr : RpOk rp) (hk : op.kind = 5) {k : Nat} (hs : seatA op = (k : Int)) (hlt : k < s.seats.length) (hne : s.seats[k].serial < 18446744073709551615) : Calls Tryz.prog 23 #[auV F s, stV op rp] W (fun e w' => ∃ F', e = .returned (auV F' (learnA s op rp)) ∧ IsAu w' F' (learnA s op rp) ∧ Below W.heap.size W w' ∧ StepOwn W F s F' (learnA s op rp) w') := by
  have hlen := ok.len
  have hwl : s.waiting.length ≤ 8 := by
    have h1 := ok.hw
    have h2 := (checkV_ok ok.hc).1.1
    omega
  have HR := Lib.hid R
  have HOR := Lib.hid (And.intro ho hr)
  have CS := Lib.hid (fun w => rspoken_any op w ho.2.2.2.2.2.2.2.1.1)
  unfold opV at CS
  have hL := Lib.hid (show learnA s op rp = { s with seats := s.seats.set k (soldS op.owner s.seats[k]) } by simp [learnA, isB, hk, hs, seatMod, List.getElem?_eq_getElem hlt])
  have HX := Lib.hid (show U64 s.seats[k].serial ∧ U64 s.seats[k].epoch by
    obtain ⟨_, _, _, _, _, _, _, _, _, _, _, _, hx2, hx3⟩ := R.ss.atE hlt
    exact ⟨hx2, hx3⟩)
  have hk0 : (0 : Int) ≤ (k : Int) := by omega
  have hk1 : (k : Int) < (s.seats.length : Int) := by omega
  have hk2 : decide ((k : Int) < 0) = false := decide_eq_false (by omega)
  have HK := Lib.hid hk
  clear R ok ho hr hk
  unfold auV stV
  go_enter Tryz.func23, Tryz.ntmps23
  go_upto_region 2 with fail
  obtain ⟨q, hq⟩ : ∃ q, W.heap.size = q := ⟨_, rfl⟩
  rw [hq]
  refine at_world (fun w => Below W.heap.size W w ∧ Cells w q (auCells F s) ∧ Cells w (q + 1) (opCells op ++ rpCells rp) ∧ Cells w (q + 1 + 1) zeroAuC ∧ Cells w (q + 1 + 1 + 1) (opCells op))
    (four_boxes hq (auCells F s) (opCells op ++ rpCells rp) zeroAuC (opCells op) _ _ _ _) fun w1 ⟨hb1, k1, k2, k3, k4⟩ => ?_
  have D1 := Lib.hid hb1
  have L1 := Lib.hid k1
  have X1 := Lib.hid k2
  have Z1 := Lib.hid k3
  have O1 := Lib.hid k4
  have HQ := Lib.hid hq
  clear hb1 k1 k2 k3 k4 hq
  have c5 := L1.out.c 5 _ rfl
  have f5 := L1.out.f 5
  have y0 := L1.out.lt
  go_upto_region 3 with (at_builtin; go_loud (refine wpList_append_sl _ rfl (.tmp 14) (.tmp 16) 34 rfl seR (q + 1 + 1 + 1 + 1) 75 _ 32 Tryz.underlying34 infoE rfl (by decide) _ [] rfl (Own.empty _ _ _ (by have := O1.out.lt; omega)) _ s.seats rfl (HR.out.ss.up (bal D1.out)) (by simp; omega) (by decide) (by have := O1.out.lt; simp; omega) (fun w' _ cs y h => seR_flat _ _ _ _ h) ?_; intro v1 w2 hown1 hg1 hat1; have hb2 := (ba w1 (.cells #[] 75)).grown hg1 (ba w1 (.cells #[] 75)).size (fun j hj => by cases hj; exact Nat.le_refl _); obtain ⟨a, ac, rfl, ha⟩ := own_app hown1 hat1 (by simp); replace c5 := cell_later hb2 c5; replace f5 := (L1.out.later hb2).f 5; have y0' : q < w2.heap.size := Nat.lt_of_lt_of_le y0 hb2.size))
  have hga : q + 1 + 1 + 1 + 1 ≤ a := by have h1 := O1.out.lt; have h2 : w1.heap.size ≤ a := ha; omega
  have D2 := Lib.hid (D1.out.trans (hb2.mono D1.out.size))
  have hset := grownBy_set w2 q 5 (.slice (some ⟨a, 0, none⟩) s.seats.length ac)
  have hWq : W.heap.size ≤ q := by have := HQ.out; omega
  have hown2 := hown1
  simp only [List.nil_append] at hown2 ⊢
  refine at_world (fun w => Below W.heap.size W w ∧ Cells w q [.int .i64 s.ve.shards, .int .i64 s.ve.ttl, .int .i64 s.ve.session, .slice F.V s.ve.secs.length F.vc, .int .i64 s.now, .slice (some ⟨a, 0, none⟩) s.seats.length ac, .slice F.B s.waiting.length F.bc] ∧ Cells w (q + 1) (opCells op ++ rpCells rp) ∧ Cells w (q + 1 + 1) zeroAuC ∧ Cells w (q + 1 + 1 + 1) (opCells op) ∧ Own seR 75 (q + 1 + 1 + 1 + 1) w (.slice (some ⟨a, 0, none⟩) s.seats.length ac) s.seats)
    ⟨D2.out.grown hset D2.out.size (fun j hj => by injection hj with hj; omega), (L1.out.later hb2).set1, (X1.out.later hb2).grown hset (fun e => by injection e with e; omega), (Z1.out.later hb2).grown hset (fun e => by injection e with e; omega), (O1.out.later hb2).grown hset (fun e => by injection e with e; omega), hown2.kept hset (fun i hi e => by cases hi; injection e with e; dsimp only at e; omega) (fun _ _ h => h)⟩ fun w3 ⟨hb3, k1, k2, k3, k4, o1⟩ => ?_
  have D3 := Lib.hid hb3
  have L3 := Lib.hid k1
  have X3 := Lib.hid k2
  have Z3 := Lib.hid k3
  have O3 := Lib.hid k4
  have P3 := Lib.hid o1
  clear hb3 k1 k2 k3 k4 o1 hset hown1 hown2 hg1 hat1 ha hb2 c5 f5 y0 y0' D1 D2 L1 X1 Z1 O1
  have c6 := L3.out.c 6 _ rfl
  have f6 := L3.out.f 6
  have y0 := L3.out.lt
  go_upto_region 4 with (at_builtin; go_loud (refine wpList_append_sl _ rfl (.tmp 19) (.tmp 21) 35 rfl intR (q + 1 + 1 + 1 + 1) 3 _ 8 Tryz.underlying35 infoJ rfl (by decide) _ [] rfl (Own.empty _ _ _ (by have := O3.out.lt; omega)) _ s.waiting rfl (HR.out.ws.up (bal D3.out)) (by simp; omega) (by decide) (by have := O3.out.lt; simp; omega) (fun w' _ cs y h => intR_flat _ _ _ _ h) ?_; intro v1 w2 hown1 hg1 hat1; have hb2 := (ba w3 (.cells #[] 3)).grown hg1 (ba w3 (.cells #[] 3)).size (fun j hj => by cases hj; exact Nat.le_refl _); obtain ⟨b, bc, rfl, hb9⟩ := own_app hown1 hat1 (by simp); replace c6 := cell_later hb2 c6; replace f6 := (L3.out.later hb2).f 6; have y0' : q < w2.heap.size := Nat.lt_of_lt_of_le y0 hb2.size))
  have hab : a < b := by have h1 := (P3.out.lt a rfl).2; have h2 : w3.heap.size ≤ b := hb9; omega
  have hgb : q + 1 + 1 + 1 + 1 ≤ b := by omega
  have D4 := Lib.hid (D3.out.trans (hb2.mono D3.out.size))
  have hset := grownBy_set w2 q 6 (.slice (some ⟨b, 0, none⟩) s.waiting.length bc)
  have hown2 := hown1
  simp only [List.nil_append] at hown2 ⊢
  refine at_world (fun w => AfO W w q a ac b bc F.V F.vc s op rp)
    ⟨D4.out.grown hset D4.out.size (fun j hj => by injection hj with hj; omega), hWq, (L3.out.later hb2).set1, (X3.out.later hb2).grown hset (fun e => by injection e with e; omega), (Z3.out.later hb2).grown hset (fun e => by injection e with e; omega), (O3.out.later hb2).grown hset (fun e => by injection e with e; omega), (P3.out.up hb2).kept hset (fun i hi e => by cases hi; injection e with e; dsimp only at e; omega) (fun _ _ h => h),
      hown2.kept hset (fun i hi e => by cases hi; injection e with e; dsimp only at e; omega) (fun _ _ h => h), by omega, HR.out.vs, HR.out.bv, HR.out.bn⟩ fun w5 R5 => ?_
  have RR := Lib.hid R5
  clear R5 hset hown1 hown2 hg1 hat1 hb9 hb2 c6 f6 y0 y0' D3 D4 L3 X3 Z3 O3 P3 hga hgb hab hWq HQ
  have kk := RR.out.oc
  have o0 := kk.c 0 _ rfl
  have o1 := kk.c 1 _ rfl
  have o2 := kk.c 2 _ rfl
  have o3 := kk.c 3 _ rfl
  have o4 := kk.c 4 _ rfl
  have o5 := kk.c 5 _ rfl
  have o6 := kk.c 6 _ rfl
  have o7 := kk.c 7 _ rfl
  have o8 := kk.c 8 _ rfl
  have o9 := kk.c 9 _ rfl
  have o10 := kk.c 10 _ rfl
  have o11 := kk.c 11 _ rfl
  have yo := kk.lt
  clear kk
  rw [HK.out] at o0
  have CS' := CS
  rw [hs, HK.out] at CS'
  go_wp2_with fail
  refine (CS'.out _).mono ?_
  rintro e w7 ⟨rfl, hb7⟩
  have R7 := Lib.hid (RR.out.up hb7)
  clear o0 o1 o2 o3 o4 o5 o6 o7 o8 o9 o10 o11 yo hb7 CS CS'
  have kk := R7.out.oc
  have o0 := kk.c 0 _ rfl
  have yo := kk.lt
  clear kk
  rw [HK.out] at o0
  have kk := R7.out.cs
  have c5 := kk.c 5 _ rfl
  have yc := kk.lt
  clear kk
  dsimp only [cpF] at c5
  obtain ⟨sc, ⟨rfl, hz9⟩, hcs, fd⟩ := R7.out.ss.cell_ hlt
  have m0 := hcs 0 _ rfl
  have m1 := hcs 1 _ rfl
  have m2 := hcs 2 _ rfl
  have m3 := hcs 3 _ rfl
  have m4 := hcs 4 _ rfl
  have m5 := hcs 5 _ rfl
  simp only [seR, Nat.add_zero] at m0 m1 m2 m3 m4 m5
  clear hcs fd hz9
  have ya := R7.out.ga.2
  go_upto_region 28 with fail
  go_big_region
  all_goals
    clear o0 c5 m0 m1 m2 m3 m4 m5 yo yc ya
    refine at_world (fun w => Below w7.heap.size w7 w ∧ Cells w w7.heap.size [.bool false, .bool false, .int .u32 0, .int .i64 0, .int .u64 s.seats[k].serial, .int .u64 s.seats[k].epoch]) ⟨bdd (ba _ _), (Cells.newS _ _ _ _ rfl).drew⟩ fun w8 ⟨hb8, k8⟩ => ?_
    have HB8 := Lib.hid hb8
    have K8 := Lib.hid k8
    clear hb8 k8
    have kk := (R7.out.up HB8.out).oc
    have o0 := kk.c 0 _ rfl
    have o1 := kk.c 1 _ rfl
    have o6 := kk.c 6 _ rfl
    have yo := kk.lt
    clear kk
    rw [HK.out] at o0
    have kk := K8.out
    have n0 := kk.c 0 _ rfl
    have n1 := kk.c 1 _ rfl
    have n2 := kk.c 2 _ rfl
    have n3 := kk.c 3 _ rfl
    have n4 := kk.c 4 _ rfl
    have n5 := kk.c 5 _ rfl
    have p0 := kk.f 0
    have p1 := kk.f 1
    have p2 := kk.f 2
    have p3 := kk.f 3
    have p4 := kk.f 4
    have p5 := kk.f 5
    have yn := kk.lt
    clear kk
    have hwe : IntKind.u64.wrap (s.seats[k].serial + 1) = s.seats[k].serial + 1 := IntWalk.u64_in _ (by have := HX.out.1; unfold U64 at this; omega)
    go_upto_region 31 with fail
    go_big_region
    clear hwe
    refine at_world (fun w => Below w7.heap.size w7 w ∧ Cells w w7.heap.size (seCells (soldS op.owner s.seats[k]))) ⟨bdd (((HB8.out.setCell (p := ⟨w7.heap.size, 0, none⟩) (Nat.le_refl _) _).setCell (p := ⟨w7.heap.size, 2, none⟩) (Nat.le_refl _) _).setCell (p := ⟨w7.heap.size, 4, none⟩) (Nat.le_refl _) _), (K8.out.set1.set1.set1).drew⟩ fun w11 ⟨hb11, k11⟩ => ?_
    replace HB8 := Lib.hid hb11
    replace K8 := Lib.hid k11
    clear hb11 k11 n0 n1 n2 n3 n4 n5 p0 p1 p2 p3 p4 p5 yn o0 o1 o6 yo
    have kk := (R7.out.up HB8.out).oc
    have o0 := kk.c 0 _ rfl
    have o1 := kk.c 1 _ rfl
    have o6 := kk.c 6 _ rfl
    have yo := kk.lt
    clear kk
    rw [HK.out] at o0
    have kk := K8.out
    have n0 := kk.c 0 _ rfl
    have n1 := kk.c 1 _ rfl
    have n2 := kk.c 2 _ rfl
    have n3 := kk.c 3 _ rfl
    have n4 := kk.c 4 _ rfl
    have n5 := kk.c 5 _ rfl
    have p0 := kk.f 0
    have p1 := kk.f 1
    have p2 := kk.f 2
    have p3 := kk.f 3
    have p4 := kk.f 4
    have p5 := kk.f 5
    have yn := kk.lt
    clear kk
    go_upto_region 36 with fail
    clear n0 n1 n2 n3 n4 n5 p0 p1 p2 p3 p4 p5 yn o0 o1 o6 yo
    refine at_world (fun w => Below w7.heap.size w7 w ∧ Cells w w7.heap.size (seCells (soldS op.owner s.seats[k]))) ⟨HB8.out, K8.out⟩ fun w9 ⟨hb9, k9⟩ => ?_
    have R9 := Lib.hid (R7.out.up hb9)
    have K9 := Lib.hid k9
    clear hb9 k9 HB8 K8
    have kk := R9.out.cs
    have c5 := kk.c 5 _ rfl
    have yc := kk.lt
    clear kk
    dsimp only [cpF] at c5
    have kk := K9.out
    have n0 := kk.c 0 _ rfl
    have n1 := kk.c 1 _ rfl
    have n2 := kk.c 2 _ rfl
    have n3 := kk.c 3 _ rfl
    have n4 := kk.c 4 _ rfl
    have n5 := kk.c 5 _ rfl
    have yn := kk.lt
    clear kk
    dsimp only [soldS] at n0 n1 n2 n3 n4 n5
    obtain ⟨sc, ⟨rfl, hz9⟩, hcs, fd⟩ := R9.out.ss.cell_ hlt
    have m0 := hcs 0 _ rfl
    have m1 := hcs 1 _ rfl
    have m2 := hcs 2 _ rfl
    have m3 := hcs 3 _ rfl
    have m4 := hcs 4 _ rfl
    have m5 := hcs 5 _ rfl
    simp only [seR, Nat.add_zero] at m0 m1 m2 m3 m4 m5
    have f0 := fd (k * 6)
    have f1 := fd (k * 6 + 1)
    have f2 := fd (k * 6 + 2)
    have f3 := fd (k * 6 + 3)
    have f4 := fd (k * 6 + 4)
    have f5 := fd (k * 6 + 5)
    clear hcs fd hz9
    have ya := R9.out.ga.2
    go_upto_region 37 with fail
    have RS := R9.out.putSeat hlt (x := soldS op.owner s.seats[k]) ⟨HOR.out.1.2.1, by simp [soldS, Bd], by have := HX.out.1; unfold U64 at this ⊢; simp only [soldS]; omega, HX.out.2⟩
    simp only [putAt, seCells, soldS, Nat.add_assoc, Nat.reduceAdd] at RS
    refine at_world (fun w => AfO W w q a ac b bc F.V F.vc { s with seats := s.seats.set k (soldS op.owner s.seats[k]) } op rp) RS fun w10 RS => ?_
    have RT := RS
    clear RS R9 K9 R7 RR c5 yc n0 n1 n2 n3 n4 n5 yn m0 m1 m2 m3 m4 m5 f0 f1 f2 f3 f4 f5 ya
    obtain ⟨s', hs'⟩ : ∃ s' : Au, s' = { s with seats := s.seats.set k (soldS op.owner s.seats[k]) } := ⟨_, rfl⟩
    rw [← hs'] at RT
    have HL2 := Lib.hid (hL.out.trans hs'.symm)
    clear hs' hL
    have RU := Lib.hid RT
    clear RT
    have kk := RU.out.cs
    have c0 := kk.c 0 _ rfl
    have c1 := kk.c 1 _ rfl
    have c2 := kk.c 2 _ rfl
    have c3 := kk.c 3 _ rfl
    have c4 := kk.c 4 _ rfl
    have c5 := kk.c 5 _ rfl
    have c6 := kk.c 6 _ rfl
    have yc := kk.lt
    clear kk
    dsimp only [cpF] at c3 c5 c6
    have kk := RU.out.rs
    have d0 := kk.c 0 _ rfl
    have d1 := kk.c 1 _ rfl
    have d2 := kk.c 2 _ rfl
    have d3 := kk.c 3 _ rfl
    have d4 := kk.c 4 _ rfl
    have d5 := kk.c 5 _ rfl
    have d6 := kk.c 6 _ rfl
    have e0 := kk.f 0
    have e1 := kk.f 1
    have e2 := kk.f 2
    have e3 := kk.f 3
    have e4 := kk.f 4
    have e5 := kk.f 5
    have e6 := kk.f 6
    have yd := kk.lt
    clear kk
    go_wp2_with fail
    refine at_world (fun w => Below W.heap.size W w ∧ Cells w (q + 1 + 1) (auCells (cpF F.V F.vc a ac b bc) s') ∧ IsAu w (cpF F.V F.vc a ac b bc) s' ∧ Own seR 75 W.heap.size w (.slice (some ⟨a, 0, none⟩) (s').seats.length ac) (s').seats ∧ Own intR 3 W.heap.size w (.slice (some ⟨b, 0, none⟩) (s').waiting.length bc) (s').waiting) RU.out.out fun w9 ⟨hb9, k9, is9, p9, o9⟩ => ?_
    have g0 := k9.c 0 _ rfl
    have g1 := k9.c 1 _ rfl
    have g2 := k9.c 2 _ rfl
    have g3 := k9.c 3 _ rfl
    have g4 := k9.c 4 _ rfl
    have g5 := k9.c 5 _ rfl
    have g6 := k9.c 6 _ rfl
    dsimp only [cpF] at g3 g5 g6
    rw [HL2.out]
    exact bodyPost_ret (v := auV (cpF F.V F.vc a ac b bc) s') (by simp [results, Tryz.results23, go_sem, g0, g1, g2, g3, g4, g5, g6, auV, cpF]) rfl ⟨_, rfl, is9, hb9, .inr ⟨rfl, rfl, by first | rfl | (rw [← HL2.out]; exact learn_ve s op rp), p9, o9⟩⟩

set_option maxRecDepth 100000 in
set_option maxHeartbeats 16000000 in
theorem rafter6_any {W : World} {F : Frm} {s : Au} {op : MOp} {rp : MRp} (R : IsAu W F s) (ok : Aok s) (ho : OpOk op) (hr : RpOk rp) (hk : op.kind = 6) {k : Nat} (hs : seatA op = (k : Int)) (hlt : k < s.seats.length) (hne : s.seats[k].serial < 18446744073709551615) : Calls Tryz.prog 23 #[auV F s, stV op rp] W (fun e w' => ∃ F', e = .returned (auV F' (learnA s op rp)) ∧ IsAu w' F' (learnA s op rp) ∧ Below W.heap.size W w' ∧ StepOwn W F s F' (learnA s op rp) w') := by
  have hlen := ok.len
  have hwl : s.waiting.length ≤ 8 := by
    have h1 := ok.hw
    have h2 := (checkV_ok ok.hc).1.1
    omega
  have HR := Lib.hid R
  have HOR := Lib.hid (And.intro ho hr)
  have CS := Lib.hid (fun w => rspoken_any op w ho.2.2.2.2.2.2.2.1.1)
  unfold opV at CS
  have hL := Lib.hid (show learnA s op rp = { s with seats := s.seats.set k (soldS op.to s.seats[k]) } by simp [learnA, isB, hk, hs, seatMod, List.getElem?_eq_getElem hlt])
  have HX := Lib.hid (show U64 s.seats[k].serial ∧ U64 s.seats[k].epoch by
    obtain ⟨_, _, _, _, _, _, _, _, _, _, _, _, hx2, hx3⟩ := R.ss.atE hlt
    exact ⟨hx2, hx3⟩)
  have hk0 : (0 : Int) ≤ (k : Int) := by omega
  have hk1 : (k : Int) < (s.seats.length : Int) := by omega
  have hk2 : decide ((k : Int) < 0) = false := decide_eq_false (by omega)
  have HK := Lib.hid hk
  clear R ok ho hr hk
  unfold auV stV
  go_enter Tryz.func23, Tryz.ntmps23
  go_upto_region 2 with fail
  obtain ⟨q, hq⟩ : ∃ q, W.heap.size = q := ⟨_, rfl⟩
  rw [hq]
  refine at_world (fun w => Below W.heap.size W w ∧ Cells w q (auCells F s) ∧ Cells w (q + 1) (opCells op ++ rpCells rp) ∧ Cells w (q + 1 + 1) zeroAuC ∧ Cells w (q + 1 + 1 + 1) (opCells op))
    (four_boxes hq (auCells F s) (opCells op ++ rpCells rp) zeroAuC (opCells op) _ _ _ _) fun w1 ⟨hb1, k1, k2, k3, k4⟩ => ?_
  have D1 := Lib.hid hb1
  have L1 := Lib.hid k1
  have X1 := Lib.hid k2
  have Z1 := Lib.hid k3
  have O1 := Lib.hid k4
  have HQ := Lib.hid hq
  clear hb1 k1 k2 k3 k4 hq
  have c5 := L1.out.c 5 _ rfl
  have f5 := L1.out.f 5
  have y0 := L1.out.lt
  go_upto_region 3 with (at_builtin; go_loud (refine wpList_append_sl _ rfl (.tmp 14) (.tmp 16) 34 rfl seR (q + 1 + 1 + 1 + 1) 75 _ 32 Tryz.underlying34 infoE rfl (by decide) _ [] rfl (Own.empty _ _ _ (by have := O1.out.lt; omega)) _ s.seats rfl (HR.out.ss.up (bal D1.out)) (by simp; omega) (by decide) (by have := O1.out.lt; simp; omega) (fun w' _ cs y h => seR_flat _ _ _ _ h) ?_; intro v1 w2 hown1 hg1 hat1; have hb2 := (ba w1 (.cells #[] 75)).grown hg1 (ba w1 (.cells #[] 75)).size (fun j hj => by cases hj; exact Nat.le_refl _); obtain ⟨a, ac, rfl, ha⟩ := own_app hown1 hat1 (by simp); replace c5 := cell_later hb2 c5; replace f5 := (L1.out.later hb2).f 5; have y0' : q < w2.heap.size := Nat.lt_of_lt_of_le y0 hb2.size))
  have hga : q + 1 + 1 + 1 + 1 ≤ a := by have h1 := O1.out.lt; have h2 : w1.heap.size ≤ a := ha; omega
  have D2 := Lib.hid (D1.out.trans (hb2.mono D1.out.size))
  have hset := grownBy_set w2 q 5 (.slice (some ⟨a, 0, none⟩) s.seats.length ac)
  have hWq : W.heap.size ≤ q := by have := HQ.out; omega
  have hown2 := hown1
  simp only [List.nil_append] at hown2 ⊢
  refine at_world (fun w => Below W.heap.size W w ∧ Cells w q [.int .i64 s.ve.shards, .int .i64 s.ve.ttl, .int .i64 s.ve.session, .slice F.V s.ve.secs.length F.vc, .int .i64 s.now, .slice (some ⟨a, 0, none⟩) s.seats.length ac, .slice F.B s.waiting.length F.bc] ∧ Cells w (q + 1) (opCells op ++ rpCells rp) ∧ Cells w (q + 1 + 1) zeroAuC ∧ Cells w (q + 1 + 1 + 1) (opCells op) ∧ Own seR 75 (q + 1 + 1 + 1 + 1) w (.slice (some ⟨a, 0, none⟩) s.seats.length ac) s.seats)
    ⟨D2.out.grown hset D2.out.size (fun j hj => by injection hj with hj; omega), (L1.out.later hb2).set1, (X1.out.later hb2).grown hset (fun e => by injection e with e; omega), (Z1.out.later hb2).grown hset (fun e => by injection e with e; omega), (O1.out.later hb2).grown hset (fun e => by injection e with e; omega), hown2.kept hset (fun i hi e => by cases hi; injection e with e; dsimp only at e; omega) (fun _ _ h => h)⟩ fun w3 ⟨hb3, k1, k2, k3, k4, o1⟩ => ?_
  have D3 := Lib.hid hb3
  have L3 := Lib.hid k1
  have X3 := Lib.hid k2
  have Z3 := Lib.hid k3
  have O3 := Lib.hid k4
  have P3 := Lib.hid o1
  clear hb3 k1 k2 k3 k4 o1 hset hown1 hown2 hg1 hat1 ha hb2 c5 f5 y0 y0' D1 D2 L1 X1 Z1 O1
  have c6 := L3.out.c 6 _ rfl
  have f6 := L3.out.f 6
  have y0 := L3.out.lt
  go_upto_region 4 with (at_builtin; go_loud (refine wpList_append_sl _ rfl (.tmp 19) (.tmp 21) 35 rfl intR (q + 1 + 1 + 1 + 1) 3 _ 8 Tryz.underlying35 infoJ rfl (by decide) _ [] rfl (Own.empty _ _ _ (by have := O3.out.lt; omega)) _ s.waiting rfl (HR.out.ws.up (bal D3.out)) (by simp; omega) (by decide) (by have := O3.out.lt; simp; omega) (fun w' _ cs y h => intR_flat _ _ _ _ h) ?_; intro v1 w2 hown1 hg1 hat1; have hb2 := (ba w3 (.cells #[] 3)).grown hg1 (ba w3 (.cells #[] 3)).size (fun j hj => by cases hj; exact Nat.le_refl _); obtain ⟨b, bc, rfl, hb9⟩ := own_app hown1 hat1 (by simp); replace c6 := cell_later hb2 c6; replace f6 := (L3.out.later hb2).f 6; have y0' : q < w2.heap.size := Nat.lt_of_lt_of_le y0 hb2.size))
  have hab : a < b := by have h1 := (P3.out.lt a rfl).2; have h2 : w3.heap.size ≤ b := hb9; omega
  have hgb : q + 1 + 1 + 1 + 1 ≤ b := by omega
  have D4 := Lib.hid (D3.out.trans (hb2.mono D3.out.size))
  have hset := grownBy_set w2 q 6 (.slice (some ⟨b, 0, none⟩) s.waiting.length bc)
  have hown2 := hown1
  simp only [List.nil_append] at hown2 ⊢
  refine at_world (fun w => AfO W w q a ac b bc F.V F.vc s op rp)
    ⟨D4.out.grown hset D4.out.size (fun j hj => by injection hj with hj; omega), hWq, (L3.out.later hb2).set1, (X3.out.later hb2).grown hset (fun e => by injection e with e; omega), (Z3.out.later hb2).grown hset (fun e => by injection e with e; omega), (O3.out.later hb2).grown hset (fun e => by injection e with e; omega), (P3.out.up hb2).kept hset (fun i hi e => by cases hi; injection e with e; dsimp only at e; omega) (fun _ _ h => h),
      hown2.kept hset (fun i hi e => by cases hi; injection e with e; dsimp only at e; omega) (fun _ _ h => h), by omega, HR.out.vs, HR.out.bv, HR.out.bn⟩ fun w5 R5 => ?_
  have RR := Lib.hid R5
  clear R5 hset hown1 hown2 hg1 hat1 hb9 hb2 c6 f6 y0 y0' D3 D4 L3 X3 Z3 O3 P3 hga hgb hab hWq HQ
  have kk := RR.out.oc
  have o0 := kk.c 0 _ rfl
  have o1 := kk.c 1 _ rfl
  have o2 := kk.c 2 _ rfl
  have o3 := kk.c 3 _ rfl
  have o4 := kk.c 4 _ rfl
  have o5 := kk.c 5 _ rfl
  have o6 := kk.c 6 _ rfl
  have o7 := kk.c 7 _ rfl
  have o8 := kk.c 8 _ rfl
  have o9 := kk.c 9 _ rfl
  have o10 := kk.c 10 _ rfl
  have o11 := kk.c 11 _ rfl
  have yo := kk.lt
  clear kk
  rw [HK.out] at o0
  have CS' := CS
  rw [hs, HK.out] at CS'
  go_wp2_with fail
  refine (CS'.out _).mono ?_
  rintro e w7 ⟨rfl, hb7⟩
  have R7 := Lib.hid (RR.out.up hb7)
  clear o0 o1 o2 o3 o4 o5 o6 o7 o8 o9 o10 o11 yo hb7 CS CS'
  have kk := R7.out.oc
  have o0 := kk.c 0 _ rfl
  have yo := kk.lt
  clear kk
  rw [HK.out] at o0
  have kk := R7.out.cs
  have c5 := kk.c 5 _ rfl
  have yc := kk.lt
  clear kk
  dsimp only [cpF] at c5
  obtain ⟨sc, ⟨rfl, hz9⟩, hcs, fd⟩ := R7.out.ss.cell_ hlt
  have m0 := hcs 0 _ rfl
  have m1 := hcs 1 _ rfl
  have m2 := hcs 2 _ rfl
  have m3 := hcs 3 _ rfl
  have m4 := hcs 4 _ rfl
  have m5 := hcs 5 _ rfl
  simp only [seR, Nat.add_zero] at m0 m1 m2 m3 m4 m5
  clear hcs fd hz9
  have ya := R7.out.ga.2
  go_upto_region 28 with fail
  go_big_region
  all_goals
    clear o0 c5 m0 m1 m2 m3 m4 m5 yo yc ya
    refine at_world (fun w => Below w7.heap.size w7 w ∧ Cells w w7.heap.size [.bool false, .bool false, .int .u32 0, .int .i64 0, .int .u64 s.seats[k].serial, .int .u64 s.seats[k].epoch]) ⟨bdd (ba _ _), (Cells.newS _ _ _ _ rfl).drew⟩ fun w8 ⟨hb8, k8⟩ => ?_
    have HB8 := Lib.hid hb8
    have K8 := Lib.hid k8
    clear hb8 k8
    have kk := (R7.out.up HB8.out).oc
    have o0 := kk.c 0 _ rfl
    have o1 := kk.c 1 _ rfl
    have o6 := kk.c 6 _ rfl
    have yo := kk.lt
    clear kk
    rw [HK.out] at o0
    have kk := K8.out
    have n0 := kk.c 0 _ rfl
    have n1 := kk.c 1 _ rfl
    have n2 := kk.c 2 _ rfl
    have n3 := kk.c 3 _ rfl
    have n4 := kk.c 4 _ rfl
    have n5 := kk.c 5 _ rfl
    have p0 := kk.f 0
    have p1 := kk.f 1
    have p2 := kk.f 2
    have p3 := kk.f 3
    have p4 := kk.f 4
    have p5 := kk.f 5
    have yn := kk.lt
    clear kk
    have hwe : IntKind.u64.wrap (s.seats[k].serial + 1) = s.seats[k].serial + 1 := IntWalk.u64_in _ (by have := HX.out.1; unfold U64 at this; omega)
    go_upto_region 33 with fail
    go_big_region
    clear hwe
    refine at_world (fun w => Below w7.heap.size w7 w ∧ Cells w w7.heap.size (seCells (soldS op.to s.seats[k]))) ⟨bdd (((HB8.out.setCell (p := ⟨w7.heap.size, 0, none⟩) (Nat.le_refl _) _).setCell (p := ⟨w7.heap.size, 2, none⟩) (Nat.le_refl _) _).setCell (p := ⟨w7.heap.size, 4, none⟩) (Nat.le_refl _) _), (K8.out.set1.set1.set1).drew⟩ fun w11 ⟨hb11, k11⟩ => ?_
    replace HB8 := Lib.hid hb11
    replace K8 := Lib.hid k11
    clear hb11 k11 n0 n1 n2 n3 n4 n5 p0 p1 p2 p3 p4 p5 yn o0 o1 o6 yo
    have kk := (R7.out.up HB8.out).oc
    have o0 := kk.c 0 _ rfl
    have o1 := kk.c 1 _ rfl
    have o6 := kk.c 6 _ rfl
    have yo := kk.lt
    clear kk
    rw [HK.out] at o0
    have kk := K8.out
    have n0 := kk.c 0 _ rfl
    have n1 := kk.c 1 _ rfl
    have n2 := kk.c 2 _ rfl
    have n3 := kk.c 3 _ rfl
    have n4 := kk.c 4 _ rfl
    have n5 := kk.c 5 _ rfl
    have p0 := kk.f 0
    have p1 := kk.f 1
    have p2 := kk.f 2
    have p3 := kk.f 3
    have p4 := kk.f 4
    have p5 := kk.f 5
    have yn := kk.lt
    clear kk
    go_upto_region 36 with fail
    clear n0 n1 n2 n3 n4 n5 p0 p1 p2 p3 p4 p5 yn o0 o1 o6 yo
    refine at_world (fun w => Below w7.heap.size w7 w ∧ Cells w w7.heap.size (seCells (soldS op.to s.seats[k]))) ⟨HB8.out, K8.out⟩ fun w9 ⟨hb9, k9⟩ => ?_
    have R9 := Lib.hid (R7.out.up hb9)
    have K9 := Lib.hid k9
    clear hb9 k9 HB8 K8
    have kk := R9.out.cs
    have c5 := kk.c 5 _ rfl
    have yc := kk.lt
    clear kk
    dsimp only [cpF] at c5
    have kk := K9.out
    have n0 := kk.c 0 _ rfl
    have n1 := kk.c 1 _ rfl
    have n2 := kk.c 2 _ rfl
    have n3 := kk.c 3 _ rfl
    have n4 := kk.c 4 _ rfl
    have n5 := kk.c 5 _ rfl
    have yn := kk.lt
    clear kk
    dsimp only [soldS] at n0 n1 n2 n3 n4 n5
    obtain ⟨sc, ⟨rfl, hz9⟩, hcs, fd⟩ := R9.out.ss.cell_ hlt
    have m0 := hcs 0 _ rfl
    have m1 := hcs 1 _ rfl
    have m2 := hcs 2 _ rfl
    have m3 := hcs 3 _ rfl
    have m4 := hcs 4 _ rfl
    have m5 := hcs 5 _ rfl
    simp only [seR, Nat.add_zero] at m0 m1 m2 m3 m4 m5
    have f0 := fd (k * 6)
    have f1 := fd (k * 6 + 1)
    have f2 := fd (k * 6 + 2)
    have f3 := fd (k * 6 + 3)
    have f4 := fd (k * 6 + 4)
    have f5 := fd (k * 6 + 5)
    clear hcs fd hz9
    have ya := R9.out.ga.2
    go_upto_region 37 with fail
    have RS := R9.out.putSeat hlt (x := soldS op.to s.seats[k]) ⟨HOR.out.1.2.2.2.2.2.2.1, by simp [soldS, Bd], by have := HX.out.1; unfold U64 at this ⊢; simp only [soldS]; omega, HX.out.2⟩
    simp only [putAt, seCells, soldS, Nat.add_assoc, Nat.reduceAdd] at RS
    refine at_world (fun w => AfO W w q a ac b bc F.V F.vc { s with seats := s.seats.set k (soldS op.to s.seats[k]) } op rp) RS fun w10 RS => ?_
    have RT := RS
    clear RS R9 K9 R7 RR c5 yc n0 n1 n2 n3 n4 n5 yn m0 m1 m2 m3 m4 m5 f0 f1 f2 f3 f4 f5 ya
    obtain ⟨s', hs'⟩ : ∃ s' : Au, s' = { s with seats := s.seats.set k (soldS op.to s.seats[k]) } := ⟨_, rfl⟩
    rw [← hs'] at RT
    have HL2 := Lib.hid (hL.out.trans hs'.symm)
    clear hs' hL
    have RU := Lib.hid RT
    clear RT
    have kk := RU.out.cs
    have c0 := kk.c 0 _ rfl
    have c1 := kk.c 1 _ rfl
    have c2 := kk.c 2 _ rfl
    have c3 := kk.c 3 _ rfl
    have c4 := kk.c 4 _ rfl
    have c5 := kk.c 5 _ rfl
    have c6 := kk.c 6 _ rfl
    have yc := kk.lt
    clear kk
    dsimp only [cpF] at c3 c5 c6
    have kk := RU.out.rs
    have d0 := kk.c 0 _ rfl
    have d1 := kk.c 1 _ rfl
    have d2 := kk.c 2 _ rfl
    have d3 := kk.c 3 _ rfl
    have d4 := kk.c 4 _ rfl
    have d5 := kk.c 5 _ rfl
    have d6 := kk.c 6 _ rfl
    have e0 := kk.f 0
    have e1 := kk.f 1
    have e2 := kk.f 2
    have e3 := kk.f 3
    have e4 := kk.f 4
    have e5 := kk.f 5
    have e6 := kk.f 6
    have yd := kk.lt
    clear kk
    go_wp2_with fail
    refine at_world (fun w => Below W.heap.size W w ∧ Cells w (q + 1 + 1) (auCells (cpF F.V F.vc a ac b bc) s') ∧ IsAu w (cpF F.V F.vc a ac b bc) s' ∧ Own seR 75 W.heap.size w (.slice (some ⟨a, 0, none⟩) (s').seats.length ac) (s').seats ∧ Own intR 3 W.heap.size w (.slice (some ⟨b, 0, none⟩) (s').waiting.length bc) (s').waiting) RU.out.out fun w9 ⟨hb9, k9, is9, p9, o9⟩ => ?_
    have g0 := k9.c 0 _ rfl
    have g1 := k9.c 1 _ rfl
    have g2 := k9.c 2 _ rfl
    have g3 := k9.c 3 _ rfl
    have g4 := k9.c 4 _ rfl
    have g5 := k9.c 5 _ rfl
    have g6 := k9.c 6 _ rfl
    dsimp only [cpF] at g3 g5 g6
    rw [HL2.out]
    exact bodyPost_ret (v := auV (cpF F.V F.vc a ac b bc) s') (by simp [results, Tryz.results23, go_sem, g0, g1, g2, g3, g4, g5, g6, auV, cpF]) rfl ⟨_, rfl, is9, hb9, .inr ⟨rfl, rfl, by first | rfl | (rw [← HL2.out]; exact learn_ve s op rp), p9, o9⟩⟩

end Go.Proofs.YtcomfhigbjkoeaaGreatDoor

namespace Go.Proofs.YtcomfhigbjkoeaaGreatDoor
open Go.RowKit


set_option maxRecDepth 100000 in
set_option maxHeartbeats 16000000 in
theorem rafter11_any {W : World} {F : Frm} {s : Au} {op : MOp} {rp : MRp} (R : IsAu W F s) (ok : Aok s) (ho : OpOk op) (hr : RpOk rp) (hk : op.kind = 11) {k : Nat} (hs : op.section_ = (k : Int)) (hlt : k < s.waiting.length) (hb1 : 1 ≤ s.waiting[k]) (hb2 : s.waiting[k] ≤ 64) : Calls Tryz.prog 23 #[auV F s, stV op rp] W (fun e w' => ∃ F', e = .returned (auV F' (learnA s op rp)) ∧ IsAu w' F' (learnA s op rp) ∧ Below W.heap.size W w' ∧ StepOwn W F s F' (learnA s op rp) w') := by
  have hlen := ok.len
  have hwl : s.waiting.length ≤ 8 := by
    have h1 := ok.hw
    have h2 := (checkV_ok ok.hc).1.1
    omega
  have HR := Lib.hid R
  have HOR := Lib.hid (And.intro ho hr)
  have CS := Lib.hid (fun w => rspoken_any op w ho.2.2.2.2.2.2.2.1.1)
  unfold opV at CS
  have hL := Lib.hid (show learnA s op rp = { s with waiting := s.waiting.set k (s.waiting[k] - 1) } by simp [learnA, isB, hk, hs, waitOf, List.getElem?_eq_getElem hlt])
  have hS : seatA op = -1 := by simp [seatA, hk]
  have hk0 : (0 : Int) ≤ (k : Int) := by omega
  have hk1 : (k : Int) < (s.waiting.length : Int) := by omega
  have HS := Lib.hid hs
  clear hs
  have HK := Lib.hid hk
  clear R ok ho hr hk
  unfold auV stV
  go_enter Tryz.func23, Tryz.ntmps23
  go_upto_region 2 with fail
  obtain ⟨q, hq⟩ : ∃ q, W.heap.size = q := ⟨_, rfl⟩
  rw [hq]
  refine at_world (fun w => Below W.heap.size W w ∧ Cells w q (auCells F s) ∧ Cells w (q + 1) (opCells op ++ rpCells rp) ∧ Cells w (q + 1 + 1) zeroAuC ∧ Cells w (q + 1 + 1 + 1) (opCells op))
    (four_boxes hq (auCells F s) (opCells op ++ rpCells rp) zeroAuC (opCells op) _ _ _ _) fun w1 ⟨hb1, k1, k2, k3, k4⟩ => ?_
  have D1 := Lib.hid hb1
  have L1 := Lib.hid k1
  have X1 := Lib.hid k2
  have Z1 := Lib.hid k3
  have O1 := Lib.hid k4
  have HQ := Lib.hid hq
  clear hb1 k1 k2 k3 k4 hq
  have c5 := L1.out.c 5 _ rfl
  have f5 := L1.out.f 5
  have y0 := L1.out.lt
  go_upto_region 3 with (at_builtin; go_loud (refine wpList_append_sl _ rfl (.tmp 14) (.tmp 16) 34 rfl seR (q + 1 + 1 + 1 + 1) 75 _ 32 Tryz.underlying34 infoE rfl (by decide) _ [] rfl (Own.empty _ _ _ (by have := O1.out.lt; omega)) _ s.seats rfl (HR.out.ss.up (bal D1.out)) (by simp; omega) (by decide) (by have := O1.out.lt; simp; omega) (fun w' _ cs y h => seR_flat _ _ _ _ h) ?_; intro v1 w2 hown1 hg1 hat1; have hb2 := (ba w1 (.cells #[] 75)).grown hg1 (ba w1 (.cells #[] 75)).size (fun j hj => by cases hj; exact Nat.le_refl _); obtain ⟨a, ac, rfl, ha⟩ := own_app hown1 hat1 (by simp); replace c5 := cell_later hb2 c5; replace f5 := (L1.out.later hb2).f 5; have y0' : q < w2.heap.size := Nat.lt_of_lt_of_le y0 hb2.size))
  have hga : q + 1 + 1 + 1 + 1 ≤ a := by have h1 := O1.out.lt; have h2 : w1.heap.size ≤ a := ha; omega
  have D2 := Lib.hid (D1.out.trans (hb2.mono D1.out.size))
  have hset := grownBy_set w2 q 5 (.slice (some ⟨a, 0, none⟩) s.seats.length ac)
  have hWq : W.heap.size ≤ q := by have := HQ.out; omega
  have hown2 := hown1
  simp only [List.nil_append] at hown2 ⊢
  refine at_world (fun w => Below W.heap.size W w ∧ Cells w q [.int .i64 s.ve.shards, .int .i64 s.ve.ttl, .int .i64 s.ve.session, .slice F.V s.ve.secs.length F.vc, .int .i64 s.now, .slice (some ⟨a, 0, none⟩) s.seats.length ac, .slice F.B s.waiting.length F.bc] ∧ Cells w (q + 1) (opCells op ++ rpCells rp) ∧ Cells w (q + 1 + 1) zeroAuC ∧ Cells w (q + 1 + 1 + 1) (opCells op) ∧ Own seR 75 (q + 1 + 1 + 1 + 1) w (.slice (some ⟨a, 0, none⟩) s.seats.length ac) s.seats)
    ⟨D2.out.grown hset D2.out.size (fun j hj => by injection hj with hj; omega), (L1.out.later hb2).set1, (X1.out.later hb2).grown hset (fun e => by injection e with e; omega), (Z1.out.later hb2).grown hset (fun e => by injection e with e; omega), (O1.out.later hb2).grown hset (fun e => by injection e with e; omega), hown2.kept hset (fun i hi e => by cases hi; injection e with e; dsimp only at e; omega) (fun _ _ h => h)⟩ fun w3 ⟨hb3, k1, k2, k3, k4, o1⟩ => ?_
  have D3 := Lib.hid hb3
  have L3 := Lib.hid k1
  have X3 := Lib.hid k2
  have Z3 := Lib.hid k3
  have O3 := Lib.hid k4
  have P3 := Lib.hid o1
  clear hb3 k1 k2 k3 k4 o1 hset hown1 hown2 hg1 hat1 ha hb2 c5 f5 y0 y0' D1 D2 L1 X1 Z1 O1
  have c6 := L3.out.c 6 _ rfl
  have f6 := L3.out.f 6
  have y0 := L3.out.lt
  go_upto_region 4 with (at_builtin; go_loud (refine wpList_append_sl _ rfl (.tmp 19) (.tmp 21) 35 rfl intR (q + 1 + 1 + 1 + 1) 3 _ 8 Tryz.underlying35 infoJ rfl (by decide) _ [] rfl (Own.empty _ _ _ (by have := O3.out.lt; omega)) _ s.waiting rfl (HR.out.ws.up (bal D3.out)) (by simp; omega) (by decide) (by have := O3.out.lt; simp; omega) (fun w' _ cs y h => intR_flat _ _ _ _ h) ?_; intro v1 w2 hown1 hg1 hat1; have hb2 := (ba w3 (.cells #[] 3)).grown hg1 (ba w3 (.cells #[] 3)).size (fun j hj => by cases hj; exact Nat.le_refl _); obtain ⟨b, bc, rfl, hb9⟩ := own_app hown1 hat1 (by simp); replace c6 := cell_later hb2 c6; replace f6 := (L3.out.later hb2).f 6; have y0' : q < w2.heap.size := Nat.lt_of_lt_of_le y0 hb2.size))
  have hab : a < b := by have h1 := (P3.out.lt a rfl).2; have h2 : w3.heap.size ≤ b := hb9; omega
  have hgb : q + 1 + 1 + 1 + 1 ≤ b := by omega
  have D4 := Lib.hid (D3.out.trans (hb2.mono D3.out.size))
  have hset := grownBy_set w2 q 6 (.slice (some ⟨b, 0, none⟩) s.waiting.length bc)
  have hown2 := hown1
  simp only [List.nil_append] at hown2 ⊢
  refine at_world (fun w => AfO W w q a ac b bc F.V F.vc s op rp)
    ⟨D4.out.grown hset D4.out.size (fun j hj => by injection hj with hj; omega), hWq, (L3.out.later hb2).set1, (X3.out.later hb2).grown hset (fun e => by injection e with e; omega), (Z3.out.later hb2).grown hset (fun e => by injection e with e; omega), (O3.out.later hb2).grown hset (fun e => by injection e with e; omega), (P3.out.up hb2).kept hset (fun i hi e => by cases hi; injection e with e; dsimp only at e; omega) (fun _ _ h => h),
      hown2.kept hset (fun i hi e => by cases hi; injection e with e; dsimp only at e; omega) (fun _ _ h => h), by omega, HR.out.vs, HR.out.bv, HR.out.bn⟩ fun w5 R5 => ?_
  have RR := Lib.hid R5
  clear R5 hset hown1 hown2 hg1 hat1 hb9 hb2 c6 f6 y0 y0' D3 D4 L3 X3 Z3 O3 P3 hga hgb hab hWq HQ
  have kk := RR.out.oc
  have o0 := kk.c 0 _ rfl
  have o4 := kk.c 4 _ rfl
  have yo := kk.lt
  clear kk
  rw [HK.out] at o0
  rw [HS.out] at o4
  have kk := RR.out.cs
  have c6 := kk.c 6 _ rfl
  have yc := kk.lt
  clear kk
  dsimp only [cpF] at c6
  obtain ⟨sc, ⟨rfl, hz9⟩, hcs, fd⟩ := RR.out.ws.cell_ hlt
  have m0 := hcs 0 _ rfl
  simp only [intR, Nat.add_zero, Nat.mul_one] at m0
  have f0 := fd k
  clear hcs fd hz9
  have yb := RR.out.gb.2
  have hwr : IntKind.i64.wrap (s.waiting[k] - 1) = s.waiting[k] - 1 := IntWalk.i64_in _ (by omega)
  go_upto_region 25 with fail
  refine at_world (fun w => AfO W w q a ac b bc F.V F.vc { s with waiting := s.waiting.set k (s.waiting[k] - 1) } op rp) (RR.out.putWait hlt (x := s.waiting[k] - 1) (by unfold Bd; omega)) fun w6 RS => ?_
  clear o0 o4 yo c6 yc m0 f0 yb hwr RR
  obtain ⟨s', hs'⟩ : ∃ s' : Au, s' = { s with waiting := s.waiting.set k (s.waiting[k] - 1) } := ⟨_, rfl⟩
  rw [← hs'] at RS
  have HL2 := Lib.hid (hL.out.trans hs'.symm)
  clear hs' hL
  have RR := Lib.hid RS
  clear RS
  have kk := RR.out.oc
  have o0 := kk.c 0 _ rfl
  have o1 := kk.c 1 _ rfl
  have o2 := kk.c 2 _ rfl
  have o3 := kk.c 3 _ rfl
  have o4 := kk.c 4 _ rfl
  have o5 := kk.c 5 _ rfl
  have o6 := kk.c 6 _ rfl
  have o7 := kk.c 7 _ rfl
  have o8 := kk.c 8 _ rfl
  have o9 := kk.c 9 _ rfl
  have o10 := kk.c 10 _ rfl
  have o11 := kk.c 11 _ rfl
  have yo := kk.lt
  clear kk
  rw [HK.out] at o0
  have CS' := CS
  rw [hS, HK.out] at CS'
  go_wp2_with fail
  refine (CS'.out _).mono ?_
  rintro e w7 ⟨rfl, hb7⟩
  have R7 := Lib.hid (RR.out.up hb7)
  clear o0 o1 o2 o3 o4 o5 o6 o7 o8 o9 o10 o11 yo hb7 CS CS'
  have kk := R7.out.oc
  have o0 := kk.c 0 _ rfl
  have yo := kk.lt
  clear kk
  rw [HK.out] at o0
  have kk := R7.out.cs
  have c0 := kk.c 0 _ rfl
  have c1 := kk.c 1 _ rfl
  have c2 := kk.c 2 _ rfl
  have c3 := kk.c 3 _ rfl
  have c4 := kk.c 4 _ rfl
  have c5 := kk.c 5 _ rfl
  have c6 := kk.c 6 _ rfl
  have yc := kk.lt
  clear kk
  dsimp only [cpF] at c3 c5 c6
  have kk := R7.out.rs
  have d0 := kk.c 0 _ rfl
  have d1 := kk.c 1 _ rfl
  have d2 := kk.c 2 _ rfl
  have d3 := kk.c 3 _ rfl
  have d4 := kk.c 4 _ rfl
  have d5 := kk.c 5 _ rfl
  have d6 := kk.c 6 _ rfl
  have e0 := kk.f 0
  have e1 := kk.f 1
  have e2 := kk.f 2
  have e3 := kk.f 3
  have e4 := kk.f 4
  have e5 := kk.f 5
  have e6 := kk.f 6
  have yd := kk.lt
  clear kk
  go_wp2_with fail
  refine at_world (fun w => Below W.heap.size W w ∧ Cells w (q + 1 + 1) (auCells (cpF F.V F.vc a ac b bc) s') ∧ IsAu w (cpF F.V F.vc a ac b bc) s' ∧ Own seR 75 W.heap.size w (.slice (some ⟨a, 0, none⟩) (s').seats.length ac) (s').seats ∧ Own intR 3 W.heap.size w (.slice (some ⟨b, 0, none⟩) (s').waiting.length bc) (s').waiting) R7.out.out fun w9 ⟨hb9, k9, is9, p9, o9⟩ => ?_
  have g0 := k9.c 0 _ rfl
  have g1 := k9.c 1 _ rfl
  have g2 := k9.c 2 _ rfl
  have g3 := k9.c 3 _ rfl
  have g4 := k9.c 4 _ rfl
  have g5 := k9.c 5 _ rfl
  have g6 := k9.c 6 _ rfl
  dsimp only [cpF] at g3 g5 g6
  rw [HL2.out]
  exact bodyPost_ret (v := auV (cpF F.V F.vc a ac b bc) s') (by simp [results, Tryz.results23, go_sem, g0, g1, g2, g3, g4, g5, g6, auV, cpF]) rfl ⟨_, rfl, is9, hb9, .inr ⟨rfl, rfl, by first | rfl | (rw [← HL2.out]; exact learn_ve s op rp), p9, o9⟩⟩

set_option maxRecDepth 100000 in
set_option maxHeartbeats 16000000 in
theorem rafter10_any {W : World} {F : Frm} {s : Au} {op : MOp} {rp : MRp} (R : IsAu W F s) (ok : Aok s) (ho : OpOk op) (hr : RpOk rp) (hk : op.kind = 10) {k : Nat} (hs : op.section_ = (k : Int)) (hlt : k < s.waiting.length) (hlt2 : k < s.ve.secs.length) (hb1 : 0 ≤ s.waiting[k]) (hb2 : s.waiting[k] ≤ 64) : Calls Tryz.prog 23 #[auV F s, stV op rp] W (fun e w' => ∃ F', e = .returned (auV F' (learnA s op rp)) ∧ IsAu w' F' (learnA s op rp) ∧ Below W.heap.size W w' ∧ StepOwn W F s F' (learnA s op rp) w') := by
  have hlen := ok.len
  have hwl : s.waiting.length ≤ 8 := by
    have h1 := ok.hw
    have h2 := (checkV_ok ok.hc).1.1
    omega
  have HR := Lib.hid R
  have HOR := Lib.hid (And.intro ho hr)
  have CS := Lib.hid (fun w => rspoken_any op w ho.2.2.2.2.2.2.2.1.1)
  unfold opV at CS
  have hL := Lib.hid (show learnA s op rp = { s with waiting := s.waiting.set k (min (s.waiting[k] + 1) s.ve.secs[k].queue) } by simp [learnA, isB, hk, hs, waitOf, queueOf, List.getElem?_eq_getElem hlt, List.getElem?_eq_getElem hlt2])
  have hS : seatA op = -1 := by simp [seatA, hk]
  have hk0 : (0 : Int) ≤ (k : Int) := by omega
  have hk1 : (k : Int) < (s.waiting.length : Int) := by omega
  have hk3 : (k : Int) < (s.ve.secs.length : Int) := by omega
  have HS := Lib.hid hs
  clear hs
  have HK := Lib.hid hk
  clear R ok ho hr hk
  unfold auV stV
  go_enter Tryz.func23, Tryz.ntmps23
  go_upto_region 2 with fail
  obtain ⟨q, hq⟩ : ∃ q, W.heap.size = q := ⟨_, rfl⟩
  rw [hq]
  refine at_world (fun w => Below W.heap.size W w ∧ Cells w q (auCells F s) ∧ Cells w (q + 1) (opCells op ++ rpCells rp) ∧ Cells w (q + 1 + 1) zeroAuC ∧ Cells w (q + 1 + 1 + 1) (opCells op))
    (four_boxes hq (auCells F s) (opCells op ++ rpCells rp) zeroAuC (opCells op) _ _ _ _) fun w1 ⟨hb1, k1, k2, k3, k4⟩ => ?_
  have D1 := Lib.hid hb1
  have L1 := Lib.hid k1
  have X1 := Lib.hid k2
  have Z1 := Lib.hid k3
  have O1 := Lib.hid k4
  have HQ := Lib.hid hq
  clear hb1 k1 k2 k3 k4 hq
  have c5 := L1.out.c 5 _ rfl
  have f5 := L1.out.f 5
  have y0 := L1.out.lt
  go_upto_region 3 with (at_builtin; go_loud (refine wpList_append_sl _ rfl (.tmp 14) (.tmp 16) 34 rfl seR (q + 1 + 1 + 1 + 1) 75 _ 32 Tryz.underlying34 infoE rfl (by decide) _ [] rfl (Own.empty _ _ _ (by have := O1.out.lt; omega)) _ s.seats rfl (HR.out.ss.up (bal D1.out)) (by simp; omega) (by decide) (by have := O1.out.lt; simp; omega) (fun w' _ cs y h => seR_flat _ _ _ _ h) ?_; intro v1 w2 hown1 hg1 hat1; have hb2 := (ba w1 (.cells #[] 75)).grown hg1 (ba w1 (.cells #[] 75)).size (fun j hj => by cases hj; exact Nat.le_refl _); obtain ⟨a, ac, rfl, ha⟩ := own_app hown1 hat1 (by simp); replace c5 := cell_later hb2 c5; replace f5 := (L1.out.later hb2).f 5; have y0' : q < w2.heap.size := Nat.lt_of_lt_of_le y0 hb2.size))
  have hga : q + 1 + 1 + 1 + 1 ≤ a := by have h1 := O1.out.lt; have h2 : w1.heap.size ≤ a := ha; omega
  have D2 := Lib.hid (D1.out.trans (hb2.mono D1.out.size))
  have hset := grownBy_set w2 q 5 (.slice (some ⟨a, 0, none⟩) s.seats.length ac)
  have hWq : W.heap.size ≤ q := by have := HQ.out; omega
  have hown2 := hown1
  simp only [List.nil_append] at hown2 ⊢
  refine at_world (fun w => Below W.heap.size W w ∧ Cells w q [.int .i64 s.ve.shards, .int .i64 s.ve.ttl, .int .i64 s.ve.session, .slice F.V s.ve.secs.length F.vc, .int .i64 s.now, .slice (some ⟨a, 0, none⟩) s.seats.length ac, .slice F.B s.waiting.length F.bc] ∧ Cells w (q + 1) (opCells op ++ rpCells rp) ∧ Cells w (q + 1 + 1) zeroAuC ∧ Cells w (q + 1 + 1 + 1) (opCells op) ∧ Own seR 75 (q + 1 + 1 + 1 + 1) w (.slice (some ⟨a, 0, none⟩) s.seats.length ac) s.seats)
    ⟨D2.out.grown hset D2.out.size (fun j hj => by injection hj with hj; omega), (L1.out.later hb2).set1, (X1.out.later hb2).grown hset (fun e => by injection e with e; omega), (Z1.out.later hb2).grown hset (fun e => by injection e with e; omega), (O1.out.later hb2).grown hset (fun e => by injection e with e; omega), hown2.kept hset (fun i hi e => by cases hi; injection e with e; dsimp only at e; omega) (fun _ _ h => h)⟩ fun w3 ⟨hb3, k1, k2, k3, k4, o1⟩ => ?_
  have D3 := Lib.hid hb3
  have L3 := Lib.hid k1
  have X3 := Lib.hid k2
  have Z3 := Lib.hid k3
  have O3 := Lib.hid k4
  have P3 := Lib.hid o1
  clear hb3 k1 k2 k3 k4 o1 hset hown1 hown2 hg1 hat1 ha hb2 c5 f5 y0 y0' D1 D2 L1 X1 Z1 O1
  have c6 := L3.out.c 6 _ rfl
  have f6 := L3.out.f 6
  have y0 := L3.out.lt
  go_upto_region 4 with (at_builtin; go_loud (refine wpList_append_sl _ rfl (.tmp 19) (.tmp 21) 35 rfl intR (q + 1 + 1 + 1 + 1) 3 _ 8 Tryz.underlying35 infoJ rfl (by decide) _ [] rfl (Own.empty _ _ _ (by have := O3.out.lt; omega)) _ s.waiting rfl (HR.out.ws.up (bal D3.out)) (by simp; omega) (by decide) (by have := O3.out.lt; simp; omega) (fun w' _ cs y h => intR_flat _ _ _ _ h) ?_; intro v1 w2 hown1 hg1 hat1; have hb2 := (ba w3 (.cells #[] 3)).grown hg1 (ba w3 (.cells #[] 3)).size (fun j hj => by cases hj; exact Nat.le_refl _); obtain ⟨b, bc, rfl, hb9⟩ := own_app hown1 hat1 (by simp); replace c6 := cell_later hb2 c6; replace f6 := (L3.out.later hb2).f 6; have y0' : q < w2.heap.size := Nat.lt_of_lt_of_le y0 hb2.size))
  have hab : a < b := by have h1 := (P3.out.lt a rfl).2; have h2 : w3.heap.size ≤ b := hb9; omega
  have hgb : q + 1 + 1 + 1 + 1 ≤ b := by omega
  have D4 := Lib.hid (D3.out.trans (hb2.mono D3.out.size))
  have hset := grownBy_set w2 q 6 (.slice (some ⟨b, 0, none⟩) s.waiting.length bc)
  have hown2 := hown1
  simp only [List.nil_append] at hown2 ⊢
  refine at_world (fun w => AfO W w q a ac b bc F.V F.vc s op rp)
    ⟨D4.out.grown hset D4.out.size (fun j hj => by injection hj with hj; omega), hWq, (L3.out.later hb2).set1, (X3.out.later hb2).grown hset (fun e => by injection e with e; omega), (Z3.out.later hb2).grown hset (fun e => by injection e with e; omega), (O3.out.later hb2).grown hset (fun e => by injection e with e; omega), (P3.out.up hb2).kept hset (fun i hi e => by cases hi; injection e with e; dsimp only at e; omega) (fun _ _ h => h),
      hown2.kept hset (fun i hi e => by cases hi; injection e with e; dsimp only at e; omega) (fun _ _ h => h), by omega, HR.out.vs, HR.out.bv, HR.out.bn⟩ fun w5 R5 => ?_
  have RR := Lib.hid R5
  clear R5 hset hown1 hown2 hg1 hat1 hb9 hb2 c6 f6 y0 y0' D3 D4 L3 X3 Z3 O3 P3 hga hgb hab hWq HQ
  have kk := RR.out.oc
  have o0 := kk.c 0 _ rfl
  have o4 := kk.c 4 _ rfl
  have yo := kk.lt
  clear kk
  rw [HK.out] at o0
  rw [HS.out] at o4
  have kk := RR.out.cs
  have c6 := kk.c 6 _ rfl
  have yc := kk.lt
  clear kk
  dsimp only [cpF] at c6
  obtain ⟨sc, ⟨rfl, hz9⟩, hcs, fd⟩ := RR.out.ws.cell_ hlt
  have m0 := hcs 0 _ rfl
  simp only [intR, Nat.add_zero, Nat.mul_one] at m0
  have f0 := fd k
  clear hcs fd hz9
  have yb := RR.out.gb.2
  have hwr : IntKind.i64.wrap (s.waiting[k] + 1) = s.waiting[k] + 1 := IntWalk.i64_in _ (by omega)
  go_upto_region 14 with fail
  refine at_world (fun w => AfO W w q a ac b bc F.V F.vc { s with waiting := s.waiting.set k (s.waiting[k] + 1) } op rp) (RR.out.putWait hlt (x := s.waiting[k] + 1) (by unfold Bd; omega)) fun w6 RS => ?_
  clear o0 o4 yo c6 yc m0 f0 yb hwr RR
  have R6 := Lib.hid RS
  clear RS
  have kk := R6.out.oc
  have o0 := kk.c 0 _ rfl
  have o4 := kk.c 4 _ rfl
  have yo := kk.lt
  clear kk
  rw [HK.out] at o0
  rw [HS.out] at o4
  have kk := R6.out.cs
  have c3 := kk.c 3 _ rfl
  have c6 := kk.c 6 _ rfl
  have yc := kk.lt
  clear kk
  dsimp only [cpF] at c3 c6
  simp only [List.length_set] at c6
  have hlt3 : k < (s.waiting.set k (s.waiting[k] + 1)).length := by rw [List.length_set]; exact hlt
  obtain ⟨sc, ⟨rfl, hz9⟩, hcs, fd⟩ := R6.out.ws.cell_ hlt3
  have m0 := hcs 0 _ rfl
  simp only [intR, Nat.add_zero, Nat.mul_one, List.getElem_set_self] at m0
  have f0 := fd k
  clear hcs fd hz9
  have yb := R6.out.gb.2
  obtain ⟨b2, off2, A2, c2, hV, hbl2, g0, g1, g2, hz8⟩ := (R6.out.vs.up R6.out.bw).atS hlt2
  dsimp only at hV g2
  rw [hV] at c3
  have HBQ := Lib.hid hz8.2.1
  dsimp only at HBQ
  clear g0 g1 hz8 hV
  by_cases hq2 : s.ve.secs[k].queue < s.waiting[k] + 1
  · have t1 : decide (s.ve.secs[k].queue < s.waiting[k] + 1) = true := decide_eq_true hq2
    have hmin : min (s.waiting[k] + 1) s.ve.secs[k].queue = s.ve.secs[k].queue := by omega
    have hL2 := Lib.hid (show learnA s op rp = { s with waiting := s.waiting.set k s.ve.secs[k].queue } by rw [hL.out, hmin])
    clear hL hmin hq2
    go_quiet (fail)
    go_upto_region 15 with fail
    refine wp_region_still_tail 13 (by kernel_rfl) (by kernel_rfl) ?_
    simp only [List.take_succ_cons, List.take_zero, List.drop_succ_cons, List.drop_zero, World.drew_eq]
    repeat still_step
    refine wpStill_nil ?_
    go_upto_region 25 with fail
    have RS0 := ((R6.out.drewN nq).drew.putWait hlt3 (x := s.ve.secs[k].queue) HBQ.out)
    dsimp only at RS0
    rw [List.set_set] at RS0
    refine at_world (fun w => AfO W w q a ac b bc F.V F.vc { s with waiting := s.waiting.set k s.ve.secs[k].queue } op rp) RS0 fun w8 RS => ?_
    clear o0 o4 yo c3 c6 yc m0 f0 yb R6 RS0 t1 g2 hbl2
    obtain ⟨s', hs'⟩ : ∃ s' : Au, s' = { s with waiting := s.waiting.set k s.ve.secs[k].queue } := ⟨_, rfl⟩
    rw [← hs'] at RS
    have HL2 := Lib.hid (hL2.out.trans hs'.symm)
    clear hs' hL2
    have RR := Lib.hid RS
    clear RS
    have kk := RR.out.oc
    have o0 := kk.c 0 _ rfl
    have o1 := kk.c 1 _ rfl
    have o2 := kk.c 2 _ rfl
    have o3 := kk.c 3 _ rfl
    have o4 := kk.c 4 _ rfl
    have o5 := kk.c 5 _ rfl
    have o6 := kk.c 6 _ rfl
    have o7 := kk.c 7 _ rfl
    have o8 := kk.c 8 _ rfl
    have o9 := kk.c 9 _ rfl
    have o10 := kk.c 10 _ rfl
    have o11 := kk.c 11 _ rfl
    have yo := kk.lt
    clear kk
    rw [HK.out] at o0
    have CS' := CS
    rw [hS, HK.out] at CS'
    go_wp2_with fail
    refine (CS'.out _).mono ?_
    rintro e w7 ⟨rfl, hb7⟩
    have R7 := Lib.hid (RR.out.up hb7)
    clear o0 o1 o2 o3 o4 o5 o6 o7 o8 o9 o10 o11 yo hb7 CS CS'
    have kk := R7.out.oc
    have o0 := kk.c 0 _ rfl
    have yo := kk.lt
    clear kk
    rw [HK.out] at o0
    have kk := R7.out.cs
    have c0 := kk.c 0 _ rfl
    have c1 := kk.c 1 _ rfl
    have c2 := kk.c 2 _ rfl
    have c3 := kk.c 3 _ rfl
    have c4 := kk.c 4 _ rfl
    have c5 := kk.c 5 _ rfl
    have c6 := kk.c 6 _ rfl
    have yc := kk.lt
    clear kk
    dsimp only [cpF] at c3 c5 c6
    have kk := R7.out.rs
    have d0 := kk.c 0 _ rfl
    have d1 := kk.c 1 _ rfl
    have d2 := kk.c 2 _ rfl
    have d3 := kk.c 3 _ rfl
    have d4 := kk.c 4 _ rfl
    have d5 := kk.c 5 _ rfl
    have d6 := kk.c 6 _ rfl
    have e0 := kk.f 0
    have e1 := kk.f 1
    have e2 := kk.f 2
    have e3 := kk.f 3
    have e4 := kk.f 4
    have e5 := kk.f 5
    have e6 := kk.f 6
    have yd := kk.lt
    clear kk
    go_wp2_with fail
    refine at_world (fun w => Below W.heap.size W w ∧ Cells w (q + 1 + 1) (auCells (cpF F.V F.vc a ac b bc) s') ∧ IsAu w (cpF F.V F.vc a ac b bc) s' ∧ Own seR 75 W.heap.size w (.slice (some ⟨a, 0, none⟩) (s').seats.length ac) (s').seats ∧ Own intR 3 W.heap.size w (.slice (some ⟨b, 0, none⟩) (s').waiting.length bc) (s').waiting) R7.out.out fun w9 ⟨hb9, k9, is9, p9, o9⟩ => ?_
    have g0 := k9.c 0 _ rfl
    have g1 := k9.c 1 _ rfl
    have g2 := k9.c 2 _ rfl
    have g3 := k9.c 3 _ rfl
    have g4 := k9.c 4 _ rfl
    have g5 := k9.c 5 _ rfl
    have g6 := k9.c 6 _ rfl
    dsimp only [cpF] at g3 g5 g6
    rw [HL2.out]
    exact bodyPost_ret (v := auV (cpF F.V F.vc a ac b bc) s') (by simp [results, Tryz.results23, go_sem, g0, g1, g2, g3, g4, g5, g6, auV, cpF]) rfl ⟨_, rfl, is9, hb9, .inr ⟨rfl, rfl, by first | rfl | (rw [← HL2.out]; exact learn_ve s op rp), p9, o9⟩⟩
  · have t1 : decide (s.ve.secs[k].queue < s.waiting[k] + 1) = false := decide_eq_false hq2
    have hmin : min (s.waiting[k] + 1) s.ve.secs[k].queue = s.waiting[k] + 1 := by omega
    have hL2 := Lib.hid (show learnA s op rp = { s with waiting := s.waiting.set k (s.waiting[k] + 1) } by rw [hL.out, hmin])
    clear hL hmin hq2
    go_quiet (fail)
    go_upto_region 25 with fail
    refine at_world (fun w => AfO W w q a ac b bc F.V F.vc { s with waiting := s.waiting.set k (s.waiting[k] + 1) } op rp) (R6.out.drewN nq) fun w8 RS => ?_
    clear o0 o4 yo c3 c6 yc m0 f0 yb R6 t1 g2 hbl2
    obtain ⟨s', hs'⟩ : ∃ s' : Au, s' = { s with waiting := s.waiting.set k (s.waiting[k] + 1) } := ⟨_, rfl⟩
    rw [← hs'] at RS
    have HL2 := Lib.hid (hL2.out.trans hs'.symm)
    clear hs' hL2
    have RR := Lib.hid RS
    clear RS
    have kk := RR.out.oc
    have o0 := kk.c 0 _ rfl
    have o1 := kk.c 1 _ rfl
    have o2 := kk.c 2 _ rfl
    have o3 := kk.c 3 _ rfl
    have o4 := kk.c 4 _ rfl
    have o5 := kk.c 5 _ rfl
    have o6 := kk.c 6 _ rfl
    have o7 := kk.c 7 _ rfl
    have o8 := kk.c 8 _ rfl
    have o9 := kk.c 9 _ rfl
    have o10 := kk.c 10 _ rfl
    have o11 := kk.c 11 _ rfl
    have yo := kk.lt
    clear kk
    rw [HK.out] at o0
    have CS' := CS
    rw [hS, HK.out] at CS'
    go_wp2_with fail
    refine (CS'.out _).mono ?_
    rintro e w7 ⟨rfl, hb7⟩
    have R7 := Lib.hid (RR.out.up hb7)
    clear o0 o1 o2 o3 o4 o5 o6 o7 o8 o9 o10 o11 yo hb7 CS CS'
    have kk := R7.out.oc
    have o0 := kk.c 0 _ rfl
    have yo := kk.lt
    clear kk
    rw [HK.out] at o0
    have kk := R7.out.cs
    have c0 := kk.c 0 _ rfl
    have c1 := kk.c 1 _ rfl
    have c2 := kk.c 2 _ rfl
    have c3 := kk.c 3 _ rfl
    have c4 := kk.c 4 _ rfl
    have c5 := kk.c 5 _ rfl
    have c6 := kk.c 6 _ rfl
    have yc := kk.lt
    clear kk
    dsimp only [cpF] at c3 c5 c6
    have kk := R7.out.rs
    have d0 := kk.c 0 _ rfl
    have d1 := kk.c 1 _ rfl
    have d2 := kk.c 2 _ rfl
    have d3 := kk.c 3 _ rfl
    have d4 := kk.c 4 _ rfl
    have d5 := kk.c 5 _ rfl
    have d6 := kk.c 6 _ rfl
    have e0 := kk.f 0
    have e1 := kk.f 1
    have e2 := kk.f 2
    have e3 := kk.f 3
    have e4 := kk.f 4
    have e5 := kk.f 5
    have e6 := kk.f 6
    have yd := kk.lt
    clear kk
    go_wp2_with fail
    refine at_world (fun w => Below W.heap.size W w ∧ Cells w (q + 1 + 1) (auCells (cpF F.V F.vc a ac b bc) s') ∧ IsAu w (cpF F.V F.vc a ac b bc) s' ∧ Own seR 75 W.heap.size w (.slice (some ⟨a, 0, none⟩) (s').seats.length ac) (s').seats ∧ Own intR 3 W.heap.size w (.slice (some ⟨b, 0, none⟩) (s').waiting.length bc) (s').waiting) R7.out.out fun w9 ⟨hb9, k9, is9, p9, o9⟩ => ?_
    have g0 := k9.c 0 _ rfl
    have g1 := k9.c 1 _ rfl
    have g2 := k9.c 2 _ rfl
    have g3 := k9.c 3 _ rfl
    have g4 := k9.c 4 _ rfl
    have g5 := k9.c 5 _ rfl
    have g6 := k9.c 6 _ rfl
    dsimp only [cpF] at g3 g5 g6
    rw [HL2.out]
    exact bodyPost_ret (v := auV (cpF F.V F.vc a ac b bc) s') (by simp [results, Tryz.results23, go_sem, g0, g1, g2, g3, g4, g5, g6, auV, cpF]) rfl ⟨_, rfl, is9, hb9, .inr ⟨rfl, rfl, by first | rfl | (rw [← HL2.out]; exact learn_ve s op rp), p9, o9⟩⟩

end Go.Proofs.YtcomfhigbjkoeaaGreatDoor

namespace Go.Proofs.YtcomfhigbjkoeaaGreatDoor
open Go.RowKit


theorem set_same {α : Type} {l : List α} {k : Nat} {x : α} (h : l[k]? = some x) : l.set k x = l := by
  apply List.ext_getElem?
  intro i
  rw [List.getElem?_set]
  split
  · rename_i e
    subst e
    split
    · exact h.symm
    · rename_i h1
      rw [List.getElem?_eq_none (by omega)] at h
      cases h
  · rfl
theorem mod_el {α : Type} (f : α → α) (l : List α) (j : Nat) (h : j < l.length) (h2 : j < (modSeg f l 0 j).length) : (modSeg f l 0 j)[j] = l[j] := by
  have h1 := modSeg_at f l 0 j (by omega)
  simp only [Nat.zero_add] at h1
  rw [List.getElem?_eq_getElem h2] at h1
  exact Option.some.inj h1
theorem mod_next {α : Type} (f : α → α) (l : List α) (j : Nat) (h : j < l.length) : modSeg f l 0 (j + 1) = (modSeg f l 0 j).set j (f l[j]) := by
  have h1 := modSeg_next f l 0 j (by omega)
  simp only [Nat.zero_add] at h1
  exact h1
theorem mod_keep {α : Type} (f : α → α) (l : List α) (j : Nat) (h : j < l.length) (hf : f l[j] = l[j]) : modSeg f l 0 (j + 1) = modSeg f l 0 j := by
  rw [mod_next f l j h, hf]
  have h1 := modSeg_at f l 0 j (by omega)
  simp only [Nat.zero_add] at h1
  exact set_same h1

set_option maxRecDepth 100000 in
set_option maxHeartbeats 16000000 in
theorem rafter12_any {W : World} {F : Frm} {s : Au} {op : MOp} {rp : MRp} (R : IsAu W F s) (ok : Aok s) (ho : OpOk op) (hr : RpOk rp) (hk : op.kind = 12) : Calls Tryz.prog 23 #[auV F s, stV op rp] W (fun e w' => ∃ F', e = .returned (auV F' (learnA s op rp)) ∧ IsAu w' F' (learnA s op rp) ∧ Below W.heap.size W w' ∧ StepOwn W F s F' (learnA s op rp) w') := by
  have hlen := ok.len
  have hwl : s.waiting.length ≤ 8 := by
    have h1 := ok.hw
    have h2 := (checkV_ok ok.hc).1.1
    omega
  have HR := Lib.hid R
  have HOR := Lib.hid (And.intro ho hr)
  have CS := Lib.hid (fun w => rspoken_any op w ho.2.2.2.2.2.2.2.1.1)
  unfold opV at CS
  have hL := Lib.hid (show learnA s op rp = { s with now := op.now, seats := s.seats.map (tickS op.now) } by simp [learnA, isB, hk])
  have hS : seatA op = -1 := by simp [seatA, hk]
  have HK := Lib.hid hk
  clear R ok ho hr hk
  unfold auV stV
  go_enter Tryz.func23, Tryz.ntmps23
  go_upto_region 2 with fail
  obtain ⟨q, hq⟩ : ∃ q, W.heap.size = q := ⟨_, rfl⟩
  rw [hq]
  refine at_world (fun w => Below W.heap.size W w ∧ Cells w q (auCells F s) ∧ Cells w (q + 1) (opCells op ++ rpCells rp) ∧ Cells w (q + 1 + 1) zeroAuC ∧ Cells w (q + 1 + 1 + 1) (opCells op))
    (four_boxes hq (auCells F s) (opCells op ++ rpCells rp) zeroAuC (opCells op) _ _ _ _) fun w1 ⟨hb1, k1, k2, k3, k4⟩ => ?_
  have D1 := Lib.hid hb1
  have L1 := Lib.hid k1
  have X1 := Lib.hid k2
  have Z1 := Lib.hid k3
  have O1 := Lib.hid k4
  have HQ := Lib.hid hq
  clear hb1 k1 k2 k3 k4 hq
  have c5 := L1.out.c 5 _ rfl
  have f5 := L1.out.f 5
  have y0 := L1.out.lt
  go_upto_region 3 with (at_builtin; go_loud (refine wpList_append_sl _ rfl (.tmp 14) (.tmp 16) 34 rfl seR (q + 1 + 1 + 1 + 1) 75 _ 32 Tryz.underlying34 infoE rfl (by decide) _ [] rfl (Own.empty _ _ _ (by have := O1.out.lt; omega)) _ s.seats rfl (HR.out.ss.up (bal D1.out)) (by simp; omega) (by decide) (by have := O1.out.lt; simp; omega) (fun w' _ cs y h => seR_flat _ _ _ _ h) ?_; intro v1 w2 hown1 hg1 hat1; have hb2 := (ba w1 (.cells #[] 75)).grown hg1 (ba w1 (.cells #[] 75)).size (fun j hj => by cases hj; exact Nat.le_refl _); obtain ⟨a, ac, rfl, ha⟩ := own_app hown1 hat1 (by simp); replace c5 := cell_later hb2 c5; replace f5 := (L1.out.later hb2).f 5; have y0' : q < w2.heap.size := Nat.lt_of_lt_of_le y0 hb2.size))
  have hga : q + 1 + 1 + 1 + 1 ≤ a := by have h1 := O1.out.lt; have h2 : w1.heap.size ≤ a := ha; omega
  have D2 := Lib.hid (D1.out.trans (hb2.mono D1.out.size))
  have hset := grownBy_set w2 q 5 (.slice (some ⟨a, 0, none⟩) s.seats.length ac)
  have hWq : W.heap.size ≤ q := by have := HQ.out; omega
  have hown2 := hown1
  simp only [List.nil_append] at hown2 ⊢
  refine at_world (fun w => Below W.heap.size W w ∧ Cells w q [.int .i64 s.ve.shards, .int .i64 s.ve.ttl, .int .i64 s.ve.session, .slice F.V s.ve.secs.length F.vc, .int .i64 s.now, .slice (some ⟨a, 0, none⟩) s.seats.length ac, .slice F.B s.waiting.length F.bc] ∧ Cells w (q + 1) (opCells op ++ rpCells rp) ∧ Cells w (q + 1 + 1) zeroAuC ∧ Cells w (q + 1 + 1 + 1) (opCells op) ∧ Own seR 75 (q + 1 + 1 + 1 + 1) w (.slice (some ⟨a, 0, none⟩) s.seats.length ac) s.seats)
    ⟨D2.out.grown hset D2.out.size (fun j hj => by injection hj with hj; omega), (L1.out.later hb2).set1, (X1.out.later hb2).grown hset (fun e => by injection e with e; omega), (Z1.out.later hb2).grown hset (fun e => by injection e with e; omega), (O1.out.later hb2).grown hset (fun e => by injection e with e; omega), hown2.kept hset (fun i hi e => by cases hi; injection e with e; dsimp only at e; omega) (fun _ _ h => h)⟩ fun w3 ⟨hb3, k1, k2, k3, k4, o1⟩ => ?_
  have D3 := Lib.hid hb3
  have L3 := Lib.hid k1
  have X3 := Lib.hid k2
  have Z3 := Lib.hid k3
  have O3 := Lib.hid k4
  have P3 := Lib.hid o1
  clear hb3 k1 k2 k3 k4 o1 hset hown1 hown2 hg1 hat1 ha hb2 c5 f5 y0 y0' D1 D2 L1 X1 Z1 O1
  have c6 := L3.out.c 6 _ rfl
  have f6 := L3.out.f 6
  have y0 := L3.out.lt
  go_upto_region 4 with (at_builtin; go_loud (refine wpList_append_sl _ rfl (.tmp 19) (.tmp 21) 35 rfl intR (q + 1 + 1 + 1 + 1) 3 _ 8 Tryz.underlying35 infoJ rfl (by decide) _ [] rfl (Own.empty _ _ _ (by have := O3.out.lt; omega)) _ s.waiting rfl (HR.out.ws.up (bal D3.out)) (by simp; omega) (by decide) (by have := O3.out.lt; simp; omega) (fun w' _ cs y h => intR_flat _ _ _ _ h) ?_; intro v1 w2 hown1 hg1 hat1; have hb2 := (ba w3 (.cells #[] 3)).grown hg1 (ba w3 (.cells #[] 3)).size (fun j hj => by cases hj; exact Nat.le_refl _); obtain ⟨b, bc, rfl, hb9⟩ := own_app hown1 hat1 (by simp); replace c6 := cell_later hb2 c6; replace f6 := (L3.out.later hb2).f 6; have y0' : q < w2.heap.size := Nat.lt_of_lt_of_le y0 hb2.size))
  have hab : a < b := by have h1 := (P3.out.lt a rfl).2; have h2 : w3.heap.size ≤ b := hb9; omega
  have hgb : q + 1 + 1 + 1 + 1 ≤ b := by omega
  have D4 := Lib.hid (D3.out.trans (hb2.mono D3.out.size))
  have hset := grownBy_set w2 q 6 (.slice (some ⟨b, 0, none⟩) s.waiting.length bc)
  have hown2 := hown1
  simp only [List.nil_append] at hown2 ⊢
  refine at_world (fun w => AfO W w q a ac b bc F.V F.vc s op rp)
    ⟨D4.out.grown hset D4.out.size (fun j hj => by injection hj with hj; omega), hWq, (L3.out.later hb2).set1, (X3.out.later hb2).grown hset (fun e => by injection e with e; omega), (Z3.out.later hb2).grown hset (fun e => by injection e with e; omega), (O3.out.later hb2).grown hset (fun e => by injection e with e; omega), (P3.out.up hb2).kept hset (fun i hi e => by cases hi; injection e with e; dsimp only at e; omega) (fun _ _ h => h),
      hown2.kept hset (fun i hi e => by cases hi; injection e with e; dsimp only at e; omega) (fun _ _ h => h), by omega, HR.out.vs, HR.out.bv, HR.out.bn⟩ fun w5 R5 => ?_
  have RR := Lib.hid R5
  clear R5 hset hown1 hown2 hg1 hat1 hb9 hb2 c6 f6 y0 y0' D3 D4 L3 X3 Z3 O3 P3 hga hgb hab hWq HQ
  have kk := RR.out.oc
  have o0 := kk.c 0 _ rfl
  have o11 := kk.c 11 _ rfl
  have yo := kk.lt
  clear kk
  rw [HK.out] at o0
  have kk := RR.out.cs
  have c4 := kk.c 4 _ rfl
  have c5 := kk.c 5 _ rfl
  have yc := kk.lt
  clear kk
  dsimp only [cpF] at c5
  have f4 := RR.out.cs.f 4
  go_upto_region 20 with fail
  refine at_world (fun w => AfO W w q a ac b bc F.V F.vc { s with now := op.now, seats := modSeg (tickS op.now) s.seats 0 0 } op rp) (by rw [modSeg_zero]; exact RR.out.putNow HOR.out.1.2.2.2.2.2.2.2.2) fun w6 RS => ?_
  clear o0 o11 yo c4 c5 yc f4 RR
  have RR := Lib.hid RS
  clear RS
  go_wp2_with fail
  go_loopw [9] (fun iv wr => ∃ j : Nat, j ≤ s.seats.length ∧ iv = .int .i64 (j : Nat) ∧ Hid (AfO W wr q a ac b bc F.V F.vc { s with now := op.now, seats := modSeg (tickS op.now) s.seats 0 j } op rp)) (fun iv _ => s.seats.length - (intOf iv).toNat)
  case atStart => exact ⟨0, by omega, rfl, RR⟩
  case round =>
    obtain ⟨j, hj, rfl, RJ⟩ := hrel
    clear RR
    have hml : (modSeg (tickS op.now) s.seats 0 j).length = s.seats.length := modSeg_len _ _ _ _ (by omega)
    have kk := RJ.out.oc
    have o0 := kk.c 0 _ rfl
    have o11 := kk.c 11 _ rfl
    have yo := kk.lt
    clear kk
    rw [HK.out] at o0
    have kk := RJ.out.cs
    have c4 := kk.c 4 _ rfl
    have c5 := kk.c 5 _ rfl
    have yc := kk.lt
    clear kk
    dsimp only [cpF] at c5
    rw [hml] at c5
    by_cases hlt : j < s.seats.length
    case neg => as_aux_lemma =>
      obtain rfl : j = s.seats.length := by omega
      have hz : decide ((s.seats.length : Int) < (s.seats.length : Int)) = false := decide_eq_false (by omega)
      have hzn : decide (s.seats.length < s.seats.length) = false := decide_eq_false (by omega)
      go_upto_region 25 with fail
      have RS := RJ.out
      rw [modSeg_all] at RS
      clear RJ hml hz hzn
      obtain ⟨s', hs'⟩ : ∃ s' : Au, s' = { s with now := op.now, seats := s.seats.map (tickS op.now) } := ⟨_, rfl⟩
      rw [← hs'] at RS
      have HL2 := Lib.hid (hL.out.trans hs'.symm)
      clear hs' hL
      have RR := Lib.hid RS
      clear RS o0 o11 yo c4 c5 yc
      have kk := RR.out.cs
      have c5 := kk.c 5 _ rfl
      have yc := kk.lt
      clear kk
      dsimp only [cpF] at c5
      have kk := RR.out.oc
      have o0 := kk.c 0 _ rfl
      have o1 := kk.c 1 _ rfl
      have o2 := kk.c 2 _ rfl
      have o3 := kk.c 3 _ rfl
      have o4 := kk.c 4 _ rfl
      have o5 := kk.c 5 _ rfl
      have o6 := kk.c 6 _ rfl
      have o7 := kk.c 7 _ rfl
      have o8 := kk.c 8 _ rfl
      have o9 := kk.c 9 _ rfl
      have o10 := kk.c 10 _ rfl
      have o11 := kk.c 11 _ rfl
      have yo := kk.lt
      clear kk
      rw [HK.out] at o0
      have CS' := CS
      rw [hS, HK.out] at CS'
      go_wp2_with fail
      refine (CS'.out _).mono ?_
      rintro e w7 ⟨rfl, hb7⟩
      have R7 := Lib.hid (RR.out.up hb7)
      clear o0 o1 o2 o3 o4 o5 o6 o7 o8 o9 o10 o11 yo hb7 CS CS'
      have kk := R7.out.oc
      have o0 := kk.c 0 _ rfl
      have yo := kk.lt
      clear kk
      rw [HK.out] at o0
      have kk := R7.out.cs
      have c0 := kk.c 0 _ rfl
      have c1 := kk.c 1 _ rfl
      have c2 := kk.c 2 _ rfl
      have c3 := kk.c 3 _ rfl
      have c4 := kk.c 4 _ rfl
      have c5 := kk.c 5 _ rfl
      have c6 := kk.c 6 _ rfl
      have yc := kk.lt
      clear kk
      dsimp only [cpF] at c3 c5 c6
      have kk := R7.out.rs
      have d0 := kk.c 0 _ rfl
      have d1 := kk.c 1 _ rfl
      have d2 := kk.c 2 _ rfl
      have d3 := kk.c 3 _ rfl
      have d4 := kk.c 4 _ rfl
      have d5 := kk.c 5 _ rfl
      have d6 := kk.c 6 _ rfl
      have e0 := kk.f 0
      have e1 := kk.f 1
      have e2 := kk.f 2
      have e3 := kk.f 3
      have e4 := kk.f 4
      have e5 := kk.f 5
      have e6 := kk.f 6
      have yd := kk.lt
      clear kk
      go_wp2_with fail
      refine at_world (fun w => Below W.heap.size W w ∧ Cells w (q + 1 + 1) (auCells (cpF F.V F.vc a ac b bc) s') ∧ IsAu w (cpF F.V F.vc a ac b bc) s' ∧ Own seR 75 W.heap.size w (.slice (some ⟨a, 0, none⟩) (s').seats.length ac) (s').seats ∧ Own intR 3 W.heap.size w (.slice (some ⟨b, 0, none⟩) (s').waiting.length bc) (s').waiting) R7.out.out fun w9 ⟨hb9, k9, is9, p9, o9⟩ => ?_
      have g0 := k9.c 0 _ rfl
      have g1 := k9.c 1 _ rfl
      have g2 := k9.c 2 _ rfl
      have g3 := k9.c 3 _ rfl
      have g4 := k9.c 4 _ rfl
      have g5 := k9.c 5 _ rfl
      have g6 := k9.c 6 _ rfl
      dsimp only [cpF] at g3 g5 g6
      rw [HL2.out]
      exact bodyPost_ret (v := auV (cpF F.V F.vc a ac b bc) s') (by simp [results, Tryz.results23, go_sem, g0, g1, g2, g3, g4, g5, g6, auV, cpF]) rfl ⟨_, rfl, is9, hb9, .inr ⟨rfl, rfl, by first | rfl | (rw [← HL2.out]; exact learn_ve s op rp), p9, o9⟩⟩
    as_aux_lemma =>
      have hz : decide ((j : Int) < (s.seats.length : Int)) = true := decide_eq_true (by omega)
      have hzn : decide (j < s.seats.length) = true := decide_eq_true hlt
      have hj0 : (0 : Int) ≤ (j : Int) := by omega
      have hj1 : (j : Int) < (s.seats.length : Int) := by omega
      have hlj : j < (modSeg (tickS op.now) s.seats 0 j).length := by omega
      have hel := mod_el (tickS op.now) s.seats j hlt hlj
      obtain ⟨sc, ⟨rfl, hz9⟩, hcs, fd⟩ := RJ.out.ss.cell_ hlj
      have m0 := hcs 0 _ rfl
      have m1 := hcs 1 _ rfl
      have m2 := hcs 2 _ rfl
      have m3 := hcs 3 _ rfl
      have m4 := hcs 4 _ rfl
      have m5 := hcs 5 _ rfl
      simp only [seR, Nat.add_zero, hel] at m0 m1 m2 m3 m4 m5 hz9
      have f0 := fd (j * 6)
      have f1 := fd (j * 6 + 1)
      have f2 := fd (j * 6 + 2)
      have f3 := fd (j * 6 + 3)
      have f4 := fd (j * 6 + 4)
      have f5 := fd (j * 6 + 5)
      have HXB := Lib.hid hz9
      have HN1 := Lib.hid (mod_next (tickS op.now) s.seats j hlt)
      have HN2 := Lib.hid (mod_keep (tickS op.now) s.seats j hlt)
      have HP := Lib.hid (fun (x : Se) (hx : SeOk x) => RJ.out.drewN)
      have ya := RJ.out.ga.2
      clear hcs fd hz9 hel hml HP
      generalize s.seats[j] = x at m0 m1 m2 m3 m4 m5 HXB HN1 HN2
      obtain ⟨so, hh, xo, xt, xs, xe⟩ := x
      dsimp only at m0 m1 m2 m3 m4 m5 HXB
      cases hh with
      | false =>
        have hkeep := HN2.out (by simp [tickS])
        go_wp2_with fail
        go_quiet (fail)
        go_wp2_with fail
        go_roundw
        case rel => exact ⟨j + 1, by omega, by go_num, Lib.hid (by rw [hkeep]; exact RJ.out.drewN _)⟩
        case measure => simp [intOf]; omega
      | true =>
        by_cases htn : xt ≤ op.now
        case neg =>
          have t1 : decide (xt ≤ op.now) = false := decide_eq_false htn
          have hkeep := HN2.out (by simp [tickS, t1])
          clear htn
          go_wp2_with fail
          go_quiet (fail)
          go_wp2_with fail
          go_roundw
          case rel => exact ⟨j + 1, by omega, by go_num, Lib.hid (by rw [hkeep]; exact RJ.out.drewN _)⟩
          case measure => simp [intOf]; omega
        case pos =>
          have t1 : decide (xt ≤ op.now) = true := decide_eq_true htn
          have hnext := HN1.out
          rw [show tickS op.now ⟨so, true, xo, xt, xs, xe⟩ = freeS ⟨so, true, xo, xt, xs, xe⟩ by simp [tickS, htn]] at hnext
          clear htn
          go_wp2_with fail
          go_quiet (fail)
          go_upto_region 24 with fail
          refine wp_region_still_tail 17 (by kernel_rfl) (by kernel_rfl) ?_
          simp only [List.take_succ_cons, List.take_zero, List.drop_succ_cons, List.drop_zero, World.drew_eq]
          repeat still_step
          refine wpStill_nil ?_
          go_wp2_with fail
          have RS := (RJ.out.drewN nq).drew.putSeat hlj (x := freeS ⟨so, true, xo, xt, xs, xe⟩) ⟨by simp [freeS, U32], by simp [freeS, Bd], HXB.out.2.2.1, HXB.out.2.2.2⟩
          dsimp only at RS
          rw [← hnext] at RS
          simp only [putAt, seCells, freeS, Nat.add_assoc, Nat.reduceAdd] at RS
          have HRS := Lib.hid RS
          clear RS
          go_roundw
          case rel => exact ⟨j + 1, by omega, by go_num, HRS⟩
          case measure => simp [intOf]; omega

end Go.Proofs.YtcomfhigbjkoeaaGreatDoor
