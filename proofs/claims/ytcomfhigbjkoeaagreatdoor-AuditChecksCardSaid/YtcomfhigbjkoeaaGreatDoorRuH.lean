/-
  Walks of groundlingref32.after (any kind of step) and groundlingref32.Step. Conditions: as each theorem says.
-/
import Derived.Test.YtcomfhigbjkoeaaGreatDoorRuQ
import Derived.Test.YtcomfhigbjkoeaaGreatDoorRuGH
namespace Go.Proofs.YtcomfhigbjkoeaaGreatDoor
open Go.RowKit

theorem rafter_any {W : World} {F : Frm} {s : Au} {op : MOp} {rp : MRp} (R : IsAu W F s) (ok : Aok s) (ho : OpOk op) (hr : RpOk rp) (hk1 : 1 ≤ op.kind) (hk2 : op.kind ≤ 12) (h0 : ∀ k, k < 11 → ruleA s op rp k = false) :
    Calls Tryz.prog 23 #[auV F s, stV op rp] W (fun e w' => ∃ F', e = .returned (auV F' (learnA s op rp)) ∧ IsAu w' F' (learnA s op rp) ∧ Below W.heap.size W w' ∧ StepOwn W F s F' (learnA s op rp) w') := by
  have hl : lostA s op rp = false := h0 2 (by omega)
  have hkind : op.kind = 1 ∨ op.kind = 2 ∨ op.kind = 3 ∨ op.kind = 4 ∨ op.kind = 5 ∨ op.kind = 6 ∨ op.kind = 7 ∨ op.kind = 8 ∨ op.kind = 9 ∨ op.kind = 10 ∨ op.kind = 11 ∨ op.kind = 12 := by omega
  rcases hkind with hk | hk | hk | hk | hk | hk | hk | hk | hk | hk | hk | hk
  · exact rafter1_any R ok ho hr hk
  · obtain ⟨k, h1, h2⟩ := lost_seat hl (by rw [hk]; rfl) (by rw [hk]; rfl)
    have hs : op.seat = (k : Int) := by rw [← h1, seatA, hk]; rfl
    exact rafter2_any R ok ho hr hk (k := k) (m := 1) h1 (by rw [if_neg (by omega), hs]) (by rw [if_neg (by omega)]; rfl) (by omega) (by omega)
  · obtain ⟨k, m, h1, h2, h3, h4⟩ := lost_block ok hl (by rw [hk]; rfl)
    exact rafter3_any R ok ho hr hk (k := k) (m := m) (sk := -1) (by rw [seatA, hk]; rfl) (by rw [if_pos hk, h1]) (by rw [if_pos hk, h2]) h3 rfl
  · obtain ⟨k, h1, h2⟩ := lost_seat hl (by rw [hk]; rfl) (by rw [hk]; rfl)
    exact rafter4_any R ok ho hr hk h1 h2
  · obtain ⟨k, h1, h2⟩ := lost_seat hl (by rw [hk]; rfl) (by rw [hk]; rfl)
    obtain ⟨_, _, _, _, _, _, _, _, _, _, _, _, ⟨hx0, hx1⟩, _⟩ := R.ss.atE h2
    refine rafter5_any R ok ho hr hk h1 h2 ?_
    have h9 : wrongA s.seats op rp = false := h0 9 (by omega)
    simp [wrongA, isB, hk, h1, List.getElem?_eq_getElem h2] at h9
    omega
  · obtain ⟨k, h1, h2⟩ := lost_seat hl (by rw [hk]; rfl) (by rw [hk]; rfl)
    obtain ⟨_, _, _, _, _, _, _, _, _, _, _, _, ⟨hx0, hx1⟩, _⟩ := R.ss.atE h2
    refine rafter6_any R ok ho hr hk h1 h2 ?_
    have h9 : wrongA s.seats op rp = false := h0 9 (by omega)
    simp [wrongA, isB, hk, h1, List.getElem?_eq_getElem h2] at h9
    omega
  · obtain ⟨k, h1, h2⟩ := lost_seat hl (by rw [hk]; rfl) (by rw [hk]; rfl)
    exact rafter7_any R ok ho hr hk h1 h2
  · obtain ⟨k, h1, h2⟩ := lost_seat hl (by rw [hk]; rfl) (by rw [hk]; rfl)
    obtain ⟨_, _, _, _, _, _, _, _, _, _, _, _, _, ⟨hx0, hx1⟩⟩ := R.ss.atE h2
    have hs : op.seat = (k : Int) := by rw [← h1, seatA, hk]; rfl
    refine rafter8_any R ok ho hr hk h1 h2 ?_
    have h9 : soldA s.seats op = false := h0 8 (by omega)
    simp [soldA, isB, hk, hs, List.getElem?_eq_getElem h2] at h9
    omega
  · obtain ⟨k, h1, h2⟩ := lost_seat hl (by rw [hk]; rfl) (by rw [hk]; rfl)
    exact rafter9_any R ok ho hr hk h1
  · obtain ⟨k, h1, h2⟩ := lost_section hl (by rw [hk]; rfl)
    have h3 := ok.hwait k _ (List.getElem?_eq_getElem h2)
    have h4 := ok.queue k
    exact rafter10_any R ok ho hr hk h1 h2 (by have := ok.hw; omega) h3.1 (by omega)
  · obtain ⟨k, h1, h2⟩ := lost_section hl (by rw [hk]; rfl)
    have h3 := ok.hwait k _ (List.getElem?_eq_getElem h2)
    have h4 := ok.queue k
    have h9 : listA s.ve s.waiting op rp = false := h0 10 (by omega)
    simp [listA, isB, hk, h1, waitOf, List.getElem?_eq_getElem h2] at h9
    exact rafter11_any R ok ho hr hk h1 h2 (by omega) (by omega)
  · exact rafter12_any R ok ho hr hk


theorem three_boxes {W : World} {q : Nat} (hq : W.heap.size = q) (c1 c2 : List Value) (c3 : Array Value) (t1 t2 t3 : TypeId) :
    Below W.heap.size W (((W.alloc (.cells c1.toArray t1)).alloc (.cells c2.toArray t2)).alloc (.cells c3 t3)) ∧
    Cells (((W.alloc (.cells c1.toArray t1)).alloc (.cells c2.toArray t2)).alloc (.cells c3 t3)) q c1 ∧
    Cells (((W.alloc (.cells c1.toArray t1)).alloc (.cells c2.toArray t2)).alloc (.cells c3 t3)) (q + 1) c2 ∧
    BoxN (((W.alloc (.cells c1.toArray t1)).alloc (.cells c2.toArray t2)).alloc (.cells c3 t3)) (q + 1 + 1) t3 c3 :=
  ⟨bal (bal (ba _ _)), ((Cells.newS _ _ _ _ hq.symm).alloc _).alloc _, (Cells.newS _ _ _ _ (by rw [World.size_alloc, hq])).alloc _, by
    have h := BoxN.new ((W.alloc (.cells c1.toArray t1)).alloc (.cells c2.toArray t2)) t3 c3
    rw [World.size_alloc, World.size_alloc, hq] at h
    exact h⟩

theorem row_out {W w : World} {g : Nat} {t : TypeId} {old : Array Value} {cs : List Value} (h : BoxN w g t old) (hb : Below W.heap.size W w) (hg : W.heap.size ≤ g) : Below W.heap.size W (w.setRow g cs.toArray) ∧ Cells (w.setRow g cs.toArray) g cs := by
  have hn := setRow_heap w g old cs.toArray t _ h
  have hs : (w.setRow g cs.toArray).heap.size = w.heap.size := by simp [World.setRow]
  refine ⟨below_setRow hb hg _, fun j u hu => ?_, fun j => ?_, by rw [hs]; exact h.lt⟩
  · have h := cell_setRow_same w g j old cs.toArray t _ h
    rw [h]; simpa using hu
  · unfold World.frozen?; dsimp only; rw [hn]; simp


set_option maxRecDepth 100000 in
set_option maxHeartbeats 16000000 in
theorem rstep_any {W : World} {F : Frm} {s : Au} {op : MOp} {rp : MRp} (R : IsAu W F s) (ho : OpOk op) (hr : RpOk rp) : Calls Tryz.prog 12 #[auV F s, stV op rp] W (StepPost W F s op rp) := by
  have CG := Lib.hid (fun w (hb : Below W.heap.size W w) => rgood_any (R.up hb))
  have CB := Lib.hid (fun (ok : Aok s) (h1 : 1 ≤ op.kind) (h2 : op.kind ≤ 12) w (hb : Below W.heap.size W w) => rbroken_any (rp := rp) (R.up hb) ok h1 h2 ho.2.2.2.2.2.2.2.1.1)
  have CA := Lib.hid (fun (ok : Aok s) (h1 : 1 ≤ op.kind) (h2 : op.kind ≤ 12) h0 w (hb : Below W.heap.size W w) => rafter_any (R.up hb) ok ho hr h1 h2 h0)
  have hT := Lib.hid (show stepA s op rp = if goodA s ≠ 0 then (0, goodA s, s) else readA s op rp from rfl)
  have hrd := Lib.hid (show readA s op rp = if decide (op.kind < 1) || decide (12 < op.kind) then (0, 2, s) else (brokenA s op rp, 0, if brokenA s op rp = 0 ∧ rp.err = 0 then learnA s op rp else s) from rfl)
  have hok := Lib.hid (fun h => (good_iff s).1 h)
  have hrules := Lib.hid (fun (h : brokenA s op rp = 0) (he : rp.err = 0) => broken_rules h he)
  have HR := Lib.hid R
  unfold StepPost
  generalize goodA s = G at CG hT hok
  generalize brokenA s op rp = B at CB hrd hrules
  obtain ⟨sv, hsv⟩ : ∃ sv, auV F s = sv := ⟨_, rfl⟩
  obtain ⟨xv, hxv⟩ : ∃ xv, stV op rp = xv := ⟨_, rfl⟩
  rw [hsv] at CG CB CA
  rw [hxv] at CB CA
  obtain ⟨cs, hcs⟩ : ∃ cs : List Value, cs = [.int .i64 s.ve.shards, .int .i64 s.ve.ttl, .int .i64 s.ve.session, .slice F.V s.ve.secs.length F.vc, .int .i64 s.now, .slice F.A s.seats.length F.ac, .slice F.B s.waiting.length F.bc] := ⟨_, rfl⟩
  obtain ⟨xs, hxs⟩ : ∃ xs : List Value, xs = opCells op ++ rpCells rp := ⟨_, rfl⟩
  have hcs2 : sv = .agg cs.toArray := by rw [hcs]; exact hsv.symm
  have hxs2 : xv = .agg xs.toArray := by rw [hxs]; exact hxv.symm
  have HS1 := Lib.hid (show (Tryz.prog.info? 37).map (·.size) = some cs.length by rw [hcs]; kernel_rfl)
  have HS2 := Lib.hid (show (Tryz.prog.info? 47).map (·.size) = some xs.length by rw [hxs]; show _ = some 21; kernel_rfl)
  have HS1A := Lib.hid (show (Tryz.prog.info? 37).map (·.size) = some cs.toArray.size by rw [hcs]; kernel_rfl)
  have HLE := Lib.hid (show cs.toArray.size = 7 by rw [hcs]; rfl)
  have HON := Lib.hid (show cs.toArray.all (·.oneCell') = true by rw [hcs]; simp [Value.oneCell'])
  have HCS := Lib.hid hcs
  have HXS := Lib.hid hxs
  clear hsv hxv
  subst hcs2 hxs2
  clear R ho hr
  unfold auV stV
  go_enter Tryz.func12, Tryz.ntmps12
  go_upto_region 1 with fail
  obtain ⟨q, hq⟩ : ∃ q, W.heap.size = q := ⟨_, rfl⟩
  rw [hq]
  refine at_world (fun w => Below W.heap.size W w ∧ Cells w q cs ∧ Cells w (q + 1) xs ∧ BoxN w (q + 1 + 1) 37 zeroAuC.toArray) (by rw [hcs, hxs]; exact three_boxes hq [.int .i64 s.ve.shards, .int .i64 s.ve.ttl, .int .i64 s.ve.session, .slice F.V s.ve.secs.length F.vc, .int .i64 s.now, .slice F.A s.seats.length F.ac, .slice F.B s.waiting.length F.bc] (opCells op ++ rpCells rp) zeroAuC.toArray _ _ _) fun w0 ⟨hb0, k1, k2, k3⟩ => ?_
  have D0 := Lib.hid hb0
  have L0 := Lib.hid k1
  have X0 := Lib.hid k2
  have Z0 := Lib.hid k3
  have hWq : W.heap.size ≤ q + 1 + 1 := by omega
  clear hb0 k1 k2 k3 hcs hxs hq
  go_wp2_with (first | refine wpList_load_mid rfl 37 (.tmp 2) rfl q 0 rfl cs _ L0.out.range Tryz.underlying37 rfl HS1.out ?_ | refine wpList_load_mid rfl 47 (.tmp 3) rfl (q + 1) 0 rfl xs _ X0.out.range Tryz.underlying47 rfl HS2.out ?_)
  refine (CG.out _ D0.out).mono ?_
  rintro e w1 ⟨rfl, hb⟩
  have D1 := Lib.hid (D0.out.trans (hb.mono D0.out.size))
  have L1 := Lib.hid (L0.out.later hb)
  have X1 := Lib.hid (X0.out.later hb)
  have Z1 := Lib.hid (Z0.out.later hb)
  clear hb D0 L0 X0 Z0
  clear CG
  have kk := X1.out
  rw [HXS.out] at kk
  have x0 := kk.c 0 _ rfl
  have y1 := kk.lt
  clear kk
  by_cases hG : G = 0
  case neg => as_aux_lemma =>
    have t0 : (G == 0) = false := by simpa using hG
    have t1 : (G != 0) = true := by simpa using hG
    have hN := Lib.hid (show stepA s op rp = (0, G, s) by rw [hT.out, if_pos hG])
    clear hT hrd hok hrules CB CA
    go_upto_region 5 with fail
    clear x0 y1 t0 t1
    go_wp2_with (first | refine wpList_load_mid rfl 37 (.tmp 2) rfl q 0 rfl cs _ L1.out.range Tryz.underlying37 rfl HS1.out ?_ | refine wpList_store_row rfl 37 (.tmp 4) (.tmp 27) rfl (q + 1 + 1) cs.toArray rfl rfl 37 zeroAuC.toArray Z1.out HS1A.out HLE.out.symm HON.out ?_)
    refine at_world (fun w => Below W.heap.size W w ∧ Cells w (q + 1 + 1) cs) (row_out Z1.out D1.out hWq) fun w9 ⟨hb9, k9⟩ => ?_
    rw [HCS.out] at k9
    have g0 := k9.c 0 _ rfl
    have g1 := k9.c 1 _ rfl
    have g2 := k9.c 2 _ rfl
    have g3 := k9.c 3 _ rfl
    have g4 := k9.c 4 _ rfl
    have g5 := k9.c 5 _ rfl
    have g6 := k9.c 6 _ rfl
    exact bodyPost_ret (v := .tuple #[.agg #[.int .i64 s.ve.shards, .int .i64 s.ve.ttl, .int .i64 s.ve.session, .slice F.V s.ve.secs.length F.vc, .int .i64 s.now, .slice F.A s.seats.length F.ac, .slice F.B s.waiting.length F.bc], .int .i64 0, .int .i64 G]) (by simp [results, Tryz.results12, go_sem, g0, g1, g2, g3, g4, g5, g6]) rfl ⟨F, by rw [hN.out], by rw [hN.out]; exact HR.out.up hb9, hb9, .inl ⟨rfl, by rw [hN.out]⟩⟩
  subst hG
  have HOK := Lib.hid (hok.out rfl)
  have hT2 := Lib.hid (show stepA s op rp = if decide (op.kind < 1) || decide (12 < op.kind) then (0, 2, s) else (B, 0, if B = 0 ∧ rp.err = 0 then learnA s op rp else s) by rw [hT.out, if_neg (by simp), hrd.out])
  clear hT hrd hok
  by_cases hk1 : op.kind < 1
  case pos => as_aux_lemma =>
    have t1 : decide (op.kind < 1) = true := decide_eq_true hk1
    have hN := Lib.hid (show stepA s op rp = (0, 2, s) by rw [hT2.out, t1]; rfl)
    clear hT2 hrules CB CA hk1
    go_upto_region 5 with fail
    clear x0 y1 t1
    go_wp2_with (first | refine wpList_load_mid rfl 37 (.tmp 2) rfl q 0 rfl cs _ L1.out.range Tryz.underlying37 rfl HS1.out ?_ | refine wpList_store_row rfl 37 (.tmp 4) (.tmp 27) rfl (q + 1 + 1) cs.toArray rfl rfl 37 zeroAuC.toArray Z1.out HS1A.out HLE.out.symm HON.out ?_)
    refine at_world (fun w => Below W.heap.size W w ∧ Cells w (q + 1 + 1) cs) (row_out Z1.out D1.out hWq) fun w9 ⟨hb9, k9⟩ => ?_
    rw [HCS.out] at k9
    have g0 := k9.c 0 _ rfl
    have g1 := k9.c 1 _ rfl
    have g2 := k9.c 2 _ rfl
    have g3 := k9.c 3 _ rfl
    have g4 := k9.c 4 _ rfl
    have g5 := k9.c 5 _ rfl
    have g6 := k9.c 6 _ rfl
    exact bodyPost_ret (v := .tuple #[.agg #[.int .i64 s.ve.shards, .int .i64 s.ve.ttl, .int .i64 s.ve.session, .slice F.V s.ve.secs.length F.vc, .int .i64 s.now, .slice F.A s.seats.length F.ac, .slice F.B s.waiting.length F.bc], .int .i64 0, .int .i64 2]) (by simp [results, Tryz.results12, go_sem, g0, g1, g2, g3, g4, g5, g6]) rfl ⟨F, by rw [hN.out], by rw [hN.out]; exact HR.out.up hb9, hb9, .inl ⟨rfl, by rw [hN.out]⟩⟩
  have t1 : decide (op.kind < 1) = false := decide_eq_false hk1
  by_cases hk2 : 12 < op.kind
  case pos => as_aux_lemma =>
    have t2 : decide (12 < op.kind) = true := decide_eq_true hk2
    have hN := Lib.hid (show stepA s op rp = (0, 2, s) by rw [hT2.out, t2]; simp)
    clear hT2 hrules CB CA hk1 hk2
    go_upto_region 5 with fail
    clear x0 y1 t1 t2
    go_wp2_with (first | refine wpList_load_mid rfl 37 (.tmp 2) rfl q 0 rfl cs _ L1.out.range Tryz.underlying37 rfl HS1.out ?_ | refine wpList_store_row rfl 37 (.tmp 4) (.tmp 27) rfl (q + 1 + 1) cs.toArray rfl rfl 37 zeroAuC.toArray Z1.out HS1A.out HLE.out.symm HON.out ?_)
    refine at_world (fun w => Below W.heap.size W w ∧ Cells w (q + 1 + 1) cs) (row_out Z1.out D1.out hWq) fun w9 ⟨hb9, k9⟩ => ?_
    rw [HCS.out] at k9
    have g0 := k9.c 0 _ rfl
    have g1 := k9.c 1 _ rfl
    have g2 := k9.c 2 _ rfl
    have g3 := k9.c 3 _ rfl
    have g4 := k9.c 4 _ rfl
    have g5 := k9.c 5 _ rfl
    have g6 := k9.c 6 _ rfl
    exact bodyPost_ret (v := .tuple #[.agg #[.int .i64 s.ve.shards, .int .i64 s.ve.ttl, .int .i64 s.ve.session, .slice F.V s.ve.secs.length F.vc, .int .i64 s.now, .slice F.A s.seats.length F.ac, .slice F.B s.waiting.length F.bc], .int .i64 0, .int .i64 2]) (by simp [results, Tryz.results12, go_sem, g0, g1, g2, g3, g4, g5, g6]) rfl ⟨F, by rw [hN.out], by rw [hN.out]; exact HR.out.up hb9, hb9, .inl ⟨rfl, by rw [hN.out]⟩⟩
  have t2 : decide (12 < op.kind) = false := decide_eq_false hk2
  have hT3 := Lib.hid (show stepA s op rp = (B, 0, if B = 0 ∧ rp.err = 0 then learnA s op rp else s) by rw [hT2.out, t1, t2]; rfl)
  have CB' := Lib.hid (CB.out HOK.out (by omega) (by omega))
  have CA' := Lib.hid (CA.out HOK.out (by omega) (by omega))
  clear hT2 CB CA hk1 hk2
  go_upto_region 6 with fail
  clear x0 y1 t1 t2
  go_wp2_with (first | refine wpList_load_mid rfl 37 (.tmp 2) rfl q 0 rfl cs _ L1.out.range Tryz.underlying37 rfl HS1.out ?_ | refine wpList_load_mid rfl 47 (.tmp 3) rfl (q + 1) 0 rfl xs _ X1.out.range Tryz.underlying47 rfl HS2.out ?_)
  refine (CB'.out _ D1.out).mono ?_
  rintro e w2 ⟨rfl, hb⟩
  have D2 := Lib.hid (D1.out.trans (hb.mono D1.out.size))
  have L2 := Lib.hid (L1.out.later hb)
  have X2 := Lib.hid (X1.out.later hb)
  have Z2 := Lib.hid (Z1.out.later hb)
  clear hb D1 L1 X1 Z1
  clear CB'
  by_cases hB : B = 0
  case neg => as_aux_lemma =>
    have t0 : (B != 0) = true := by simpa using hB
    have hN := Lib.hid (show stepA s op rp = (B, 0, s) by rw [hT3.out, if_neg (fun h => hB h.1)])
    clear hT3 hrules CA' hB
    go_upto_region 8 with fail
    clear t0
    go_wp2_with (first | refine wpList_load_mid rfl 37 (.tmp 2) rfl q 0 rfl cs _ L2.out.range Tryz.underlying37 rfl HS1.out ?_ | refine wpList_store_row rfl 37 (.tmp 4) (.tmp 40) rfl (q + 1 + 1) cs.toArray rfl rfl 37 zeroAuC.toArray Z2.out HS1A.out HLE.out.symm HON.out ?_)
    refine at_world (fun w => Below W.heap.size W w ∧ Cells w (q + 1 + 1) cs) (row_out Z2.out D2.out hWq) fun w9 ⟨hb9, k9⟩ => ?_
    rw [HCS.out] at k9
    have g0 := k9.c 0 _ rfl
    have g1 := k9.c 1 _ rfl
    have g2 := k9.c 2 _ rfl
    have g3 := k9.c 3 _ rfl
    have g4 := k9.c 4 _ rfl
    have g5 := k9.c 5 _ rfl
    have g6 := k9.c 6 _ rfl
    exact bodyPost_ret (v := .tuple #[.agg #[.int .i64 s.ve.shards, .int .i64 s.ve.ttl, .int .i64 s.ve.session, .slice F.V s.ve.secs.length F.vc, .int .i64 s.now, .slice F.A s.seats.length F.ac, .slice F.B s.waiting.length F.bc], .int .i64 B, .int .i64 0]) (by simp [results, Tryz.results12, go_sem, g0, g1, g2, g3, g4, g5, g6]) rfl ⟨F, by rw [hN.out], by rw [hN.out]; exact HR.out.up hb9, hb9, .inl ⟨rfl, by rw [hN.out]⟩⟩
  subst hB
  by_cases he : rp.err = 0
  case neg => as_aux_lemma =>
    have t0 : (rp.err != 0) = true := by simpa using he
    have hN := Lib.hid (show stepA s op rp = (0, 0, s) by rw [hT3.out, if_neg (fun h => he h.2)])
    have kk := X2.out
    rw [HXS.out] at kk
    have x12 := kk.c 12 _ rfl
    have y1 := kk.lt
    clear kk
    clear hT3 hrules CA' he
    go_upto_region 8 with fail
    clear t0 x12 y1
    go_wp2_with (first | refine wpList_load_mid rfl 37 (.tmp 2) rfl q 0 rfl cs _ L2.out.range Tryz.underlying37 rfl HS1.out ?_ | refine wpList_store_row rfl 37 (.tmp 4) (.tmp 40) rfl (q + 1 + 1) cs.toArray rfl rfl 37 zeroAuC.toArray Z2.out HS1A.out HLE.out.symm HON.out ?_)
    refine at_world (fun w => Below W.heap.size W w ∧ Cells w (q + 1 + 1) cs) (row_out Z2.out D2.out hWq) fun w9 ⟨hb9, k9⟩ => ?_
    rw [HCS.out] at k9
    have g0 := k9.c 0 _ rfl
    have g1 := k9.c 1 _ rfl
    have g2 := k9.c 2 _ rfl
    have g3 := k9.c 3 _ rfl
    have g4 := k9.c 4 _ rfl
    have g5 := k9.c 5 _ rfl
    have g6 := k9.c 6 _ rfl
    exact bodyPost_ret (v := .tuple #[.agg #[.int .i64 s.ve.shards, .int .i64 s.ve.ttl, .int .i64 s.ve.session, .slice F.V s.ve.secs.length F.vc, .int .i64 s.now, .slice F.A s.seats.length F.ac, .slice F.B s.waiting.length F.bc], .int .i64 0, .int .i64 0]) (by simp [results, Tryz.results12, go_sem, g0, g1, g2, g3, g4, g5, g6]) rfl ⟨F, by rw [hN.out], by rw [hN.out]; exact HR.out.up hb9, hb9, .inl ⟨rfl, by rw [hN.out]⟩⟩
  as_aux_lemma =>
    have hN := Lib.hid (show stepA s op rp = (0, 0, learnA s op rp) by rw [hT3.out, if_pos ⟨rfl, he⟩])
    have h0 := hrules.out (by first | trivial | rfl) he
    have CA2 := Lib.hid (CA'.out h0)
    have kk := X2.out
    rw [HXS.out] at kk
    have x12 := kk.c 12 _ rfl
    have y1 := kk.lt
    clear kk
    rw [he] at x12
    clear hT3 hrules CA' he h0
    go_upto_region 9 with fail
    clear x12 y1
    go_wp2_with (first | refine wpList_load_mid rfl 37 (.tmp 2) rfl q 0 rfl cs _ L2.out.range Tryz.underlying37 rfl HS1.out ?_ | refine wpList_load_mid rfl 47 (.tmp 3) rfl (q + 1) 0 rfl xs _ X2.out.range Tryz.underlying47 rfl HS2.out ?_)
    refine (CA2.out _ D2.out).mono ?_
    rintro e w3 ⟨F', rfl, is3, hb, ow3⟩
    have HI3 := Lib.hid is3
    have HW3 := Lib.hid ow3
    have HQ2 := Lib.hid (show q + 1 + 1 < w2.heap.size from Z2.out.lt)
    have HQ3 := Lib.hid (show W.heap.size ≤ w2.heap.size from D2.out.size)
    clear is3 ow3
    have D3 := Lib.hid (D2.out.trans (hb.mono D2.out.size))
    have L3 := Lib.hid (L2.out.later hb)
    have X3 := Lib.hid (X2.out.later hb)
    have Z3 := Lib.hid (Z2.out.later hb)
    clear hb D2 L2 X2 Z2
    clear CA2
    obtain ⟨s', hs'⟩ : ∃ s', learnA s op rp = s' := ⟨_, rfl⟩
    rw [hs'] at HI3 HW3 hN ⊢
    clear hs'
    obtain ⟨av, has⟩ : ∃ av : List Value, av = [.int .i64 s'.ve.shards, .int .i64 s'.ve.ttl, .int .i64 s'.ve.session, .slice F'.V s'.ve.secs.length F'.vc, .int .i64 s'.now, .slice F'.A s'.seats.length F'.ac, .slice F'.B s'.waiting.length F'.bc] := ⟨_, rfl⟩
    have hav : auV F' s' = .agg av.toArray := by rw [has]; rfl
    have HA1 := Lib.hid (show (Tryz.prog.info? 37).map (·.size) = some av.toArray.size by rw [has]; kernel_rfl)
    have HAE := Lib.hid (show av.toArray.size = 7 by rw [has]; rfl)
    have HAO := Lib.hid (show av.toArray.all (·.oneCell') = true by rw [has]; simp [Value.oneCell'])
    have HAS := Lib.hid has
    have hfin := Lib.hid (show IsAu (w3.setRow (q + 1 + 1) av.toArray) F' s' ∧ StepOwn W F s F' s' (w3.setRow (q + 1 + 1) av.toArray) by
      have hgr := grownBy_setRow w3 (q + 1 + 1) av.toArray
      have hb' := (row_out (cs := av) Z3.out D3.out hWq).1
      have hq2 := HQ2.out
      have hle := HQ3.out
      rcases HW3.out with ⟨rfl, rfl⟩ | ⟨e1, e2, e3, o1, o2⟩
      · exact ⟨HR.out.up hb', .inl ⟨rfl, rfl⟩⟩
      · have p1 := (o1.kept hgr (fun k hk e => by have := (o1.lt k hk).1; injection e with e; omega) (fun cs y h => seR_flat _ _ _ _ h)).mono hle
        have p2 := (o2.kept hgr (fun k hk e => by have := (o2.lt k hk).1; injection e with e; omega) (fun cs y h => intR_flat _ _ _ _ h)).mono hle
        exact ⟨⟨by rw [e1, e2, e3]; exact HR.out.vs.up hb', p1.sl, p2.sl, HI3.out.bv, HI3.out.bn⟩, .inr ⟨e1, e2, e3, p1, p2⟩⟩)
    rw [hav]
    clear has hav
    go_wp2_with (refine wpList_store_row rfl 37 (.tmp 4) (.tmp 44) rfl (q + 1 + 1) av.toArray rfl rfl 37 zeroAuC.toArray Z3.out HA1.out HAE.out.symm HAO.out ?_)
    refine at_world (fun w => Below W.heap.size W w ∧ Cells w (q + 1 + 1) av ∧ IsAu w F' s' ∧ StepOwn W F s F' s' w) ⟨(row_out Z3.out D3.out hWq).1, (row_out Z3.out D3.out hWq).2, hfin.out.1, hfin.out.2⟩ fun w9 ⟨hb9, k9, is9, ow9⟩ => ?_
    rw [HAS.out] at k9
    have g0 := k9.c 0 _ rfl
    have g1 := k9.c 1 _ rfl
    have g2 := k9.c 2 _ rfl
    have g3 := k9.c 3 _ rfl
    have g4 := k9.c 4 _ rfl
    have g5 := k9.c 5 _ rfl
    have g6 := k9.c 6 _ rfl
    exact bodyPost_ret (v := .tuple #[.agg #[.int .i64 s'.ve.shards, .int .i64 s'.ve.ttl, .int .i64 s'.ve.session, .slice F'.V s'.ve.secs.length F'.vc, .int .i64 s'.now, .slice F'.A s'.seats.length F'.ac, .slice F'.B s'.waiting.length F'.bc], .int .i64 0, .int .i64 0]) (by simp [results, Tryz.results12, go_sem, g0, g1, g2, g3, g4, g5, g6]) rfl ⟨F', by rw [hN.out], by rw [hN.out]; exact is9, hb9, by rw [hN.out]; exact ow9⟩
end Go.Proofs.YtcomfhigbjkoeaaGreatDoor
