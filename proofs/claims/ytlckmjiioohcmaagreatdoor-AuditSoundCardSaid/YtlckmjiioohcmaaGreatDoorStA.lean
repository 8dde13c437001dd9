/-
  Walk of audit.Step. Conditions: as the theorem says.
-/
import Derived.Test.YtlckmjiioohcmaaGreatDoorAuZ
import Derived.Test.YtlckmjiioohcmaaGreatDoorCpA
import Derived.StillTailTactics
namespace Go.Proofs.YtlckmjiioohcmaaGreatDoor
open Go.RowKit
theorem grownBy_setRowA (w : World) (g : Nat) (cs : Array Value) : w.grownBy (w.setRow g cs) (some g) :=
  ⟨rfl, rfl, rfl, by simp [World.setRow], fun k _ hk => setRow_other w g k cs (fun e => hk (by rw [e]))⟩
theorem Own.row {α : Type} {R : Rep α} {w : World} {e : TypeId} {B g n : Nat} {xs : List α} (h : Own R e B w (.slice (some ⟨g, 0, none⟩) n n) xs) : ∃ cur, w.heap[g]? = some (.cells cur e (0, 0)) ∧ cur.size = n * R.size := by
 obtain ⟨cells, ⟨_, h2⟩, _⟩ := h
 rcases h2 with ⟨h', _⟩ | ⟨g', cap', cur, h', _, hg, _, _, hcs, _⟩
 ·cases h'
 ·injection h' with e1 e2 e3
  injection e1 with e1
  injection e1 with e1 _
  subst e1 e3
  exact ⟨cur, hg, hcs⟩
theorem Cells.keep3 {g a b q : Nat} {W W' : World} {cs : List Value} (h : Cells W q cs) (hk : Only3 g a b W W') (h1 : q ≠ g) (h2 : q ≠ a) (h3 : q ≠ b) : Cells W' q cs :=
  ⟨fun j u hu => (World.cell?_of_block (hk.block q h.lt h1 h2 h3)).trans (h.c j u hu), fun j => (World.frozen?_of_block (hk.block q h.lt h1 h2 h3)).trans (h.f j), Nat.lt_of_lt_of_le h.lt hk.size⟩
theorem readA_err {s : Au} {op : MOp} {rp : MRp} (h : (readA s op rp).2.1 ≠ 0) : (readA s op rp).1 = 0 ∧ (readA s op rp).2.2 = s := by
 unfold readA at h ⊢
 split at h
 ·rename_i h1; rw [if_pos h1]; exact ⟨rfl, rfl⟩
 ·exact absurd rfl h
theorem Cells.newQ' (w : World) (cs : List Value) (t : TypeId) (g : Nat) (hg : g = w.heap.size) : Cells (w.alloc (.cells cs.toArray t)) g cs := hg ▸ Cells.new w cs t
def stepA (s : Au) (op : MOp) (rp : MRp) : Int × Int × Au := if goodA s ≠ 0 then (0, goodA s, s) else readA s op rp
def StepOwn (W : World) (F : Frm) (s : Au) (F' : Frm) (s' : Au) (w' : World) : Prop := (F' = F ∧ s' = s) ∨ (F'.V = F.V ∧ F'.vc = F.vc ∧ s'.ve = s.ve ∧ Own seR 107 W.heap.size w' (.slice F'.A s'.seats.length F'.ac) s'.seats ∧ Own intR 3 W.heap.size w' (.slice F'.B s'.waiting.length F'.bc) s'.waiting)
def StepPost (W : World) (F0 : Frm) (s : Au) (op : MOp) (rp : MRp) (e : Ending) (w' : World) : Prop := ∃ F, e = .returned (.tuple #[auV F (stepA s op rp).2.2, .int .i64 (stepA s op rp).1, .int .i64 (stepA s op rp).2.1]) ∧ IsAu w' F (stepA s op rp).2.2 ∧ Below W.heap.size W w' ∧ StepOwn W F0 s F (stepA s op rp).2.2 w'
set_option maxRecDepth 100000 in
set_option maxHeartbeats 16000000 in
theorem auStep_any {W : World} {F : Frm} {s : Au} {op : MOp} {rp : MRp} (R : IsAu W F s) (ho : OpOk op) (hr : RpOk rp) : Calls Tryz.prog 24 #[auV F s, stV op rp] W (StepPost W F s op rp) := by
 have CG := Lib.hid (fun w (hw : Below W.heap.size W w) => good_any (R.up hw))
 have hT := Lib.hid (show stepA s op rp = if goodA s ≠ 0 then (0, goodA s, s) else readA s op rp from rfl)
 have hok := Lib.hid (fun h => (good_iff s).1 h)
 have HR := Lib.hid R
 have HOR := Lib.hid (And.intro ho hr)
 obtain ⟨xs, hxs⟩ : ∃ xs : List Value, xs = opCells op ++ rpCells rp := ⟨_, rfl⟩
 have hst : stV op rp = .agg xs.toArray := by rw [hxs]; rfl
 have hx1 : xs.toArray.all (·.oneCell') = true := by rw [hxs]; simp [opCells, rpCells, Value.oneCell']
 have hxl : xs.length = 21 := by rw [hxs]; rfl
 have HXS := Lib.hid hxs
 unfold StepPost
 generalize goodA s = G at CG hT hok
 rw [hst]
 have HST := Lib.hid hst
 unfold auV at *
 obtain ⟨ve, now, seats, waiting⟩ := s
 obtain ⟨V, vc, A, ac, B, bc⟩ := F
 dsimp only at *
 obtain ⟨cs, hcs⟩ : ∃ cs : List Value, cs = [.int .i64 ve.shards, .int .i64 ve.ttl, .int .i64 ve.session, .slice V ve.secs.length vc, .int .i64 now, .slice A seats.length ac, .slice B waiting.length bc] := ⟨_, rfl⟩
 have HCS := Lib.hid hcs
 obtain ⟨q, hq⟩ : ∃ q, W.heap.size = q := ⟨_, rfl⟩
 have HQ := Lib.hid hq
 have K0 := Lib.hid (show Cells (((W.alloc (.cells #[.int .i64 ve.shards, .int .i64 ve.ttl, .int .i64 ve.session, .slice V ve.secs.length vc, .int .i64 now, .slice A seats.length ac, .slice B waiting.length bc] 67)).alloc (.cells xs.toArray 73)).alloc (.cells #[.int .i64 0, .int .i64 0, .int .i64 0, .slice none 0 0, .int .i64 0, .slice none 0 0, .slice none 0 0] 67)) q cs ∧
    Cells (((W.alloc (.cells #[.int .i64 ve.shards, .int .i64 ve.ttl, .int .i64 ve.session, .slice V ve.secs.length vc, .int .i64 now, .slice A seats.length ac, .slice B waiting.length bc] 67)).alloc (.cells xs.toArray 73)).alloc (.cells #[.int .i64 0, .int .i64 0, .int .i64 0, .slice none 0 0, .int .i64 0, .slice none 0 0, .slice none 0 0] 67)) (q + 1) xs ∧
    Cells (((W.alloc (.cells #[.int .i64 ve.shards, .int .i64 ve.ttl, .int .i64 ve.session, .slice V ve.secs.length vc, .int .i64 now, .slice A seats.length ac, .slice B waiting.length bc] 67)).alloc (.cells xs.toArray 73)).alloc (.cells #[.int .i64 0, .int .i64 0, .int .i64 0, .slice none 0 0, .int .i64 0, .slice none 0 0, .slice none 0 0] 67)) (q + 1 + 1) [.int .i64 0, .int .i64 0, .int .i64 0, .slice none 0 0, .int .i64 0, .slice none 0 0, .slice none 0 0] from
  ⟨by rw [hcs]; exact ((Cells.newQ' _ _ _ _ hq.symm).alloc _).alloc _, (Cells.newQ' _ _ _ _ (by simp [hq])).alloc _, Cells.newQ' _ _ _ _ (by simp [hq])⟩)
 clear hst R hcs hxs ho hr
 go_enter Tryz.func24, Tryz.ntmps24
 go_wp2_with fail
 refine (CG.out _ (bal (bal (ba _ _)))).mono ?_
 rintro e w1 ⟨rfl, hb1⟩
 have HB1 := Lib.hid ((bal (bal (ba W _))).trans (hb1.mono (bal (bal (ba W _))).size))
 have KA := Lib.hid (K0.out.1.later hb1)
 have KX := Lib.hid (K0.out.2.1.later hb1)
 have KR := Lib.hid (K0.out.2.2.later hb1)
 clear hb1 K0 CG hq
 have ka := KA.out
 rw [HCS.out] at ka
 have c0 := ka.c 0 _ rfl
 have c1 := ka.c 1 _ rfl
 have c2 := ka.c 2 _ rfl
 have c3 := ka.c 3 _ rfl
 have c4 := ka.c 4 _ rfl
 have c5 := ka.c 5 _ rfl
 have c6 := ka.c 6 _ rfl
 have y0 := ka.lt
 have kr := KR.out
 have d0 := kr.c 0 _ rfl
 have d1 := kr.c 1 _ rfl
 have d2 := kr.c 2 _ rfl
 have d3 := kr.c 3 _ rfl
 have d4 := kr.c 4 _ rfl
 have d5 := kr.c 5 _ rfl
 have d6 := kr.c 6 _ rfl
 have f0 := kr.f 0
 have f1 := kr.f 1
 have f2 := kr.f 2
 have f3 := kr.f 3
 have f4 := kr.f 4
 have f5 := kr.f 5
 have f6 := kr.f 6
 have y1 := kr.lt
 clear ka kr
 by_cases hG : G = 0
 case neg => as_aux_lemma =>
  have t0 : (G != 0) = true := by simpa using hG
  have hN := Lib.hid (show stepA ⟨ve, now, seats, waiting⟩ op rp = (0, G, ⟨ve, now, seats, waiting⟩) by rw [hT.out, if_pos hG])
  go_wp2_with fail
  obtain ⟨k3, hg⟩ := KR.out.put [.int .i64 ve.shards, .int .i64 ve.ttl, .int .i64 ve.session, .slice V ve.secs.length vc, .int .i64 now, .slice A seats.length ac, .slice B waiting.length bc] rfl
  refine at_world (fun w => Below W.heap.size W w ∧ Cells w (q + 1 + 1) [.int .i64 ve.shards, .int .i64 ve.ttl, .int .i64 ve.session, .slice V ve.secs.length vc, .int .i64 now, .slice A seats.length ac, .slice B waiting.length bc]) ⟨HB1.out.grown hg (by have := HB1.out.size; omega) (fun j hj => by injection hj with hj; have := HQ.out; omega), k3⟩ fun w2 ⟨hb2, k4⟩ => ?_
  have g0 := k4.c 0 _ rfl
  have g1 := k4.c 1 _ rfl
  have g2 := k4.c 2 _ rfl
  have g3 := k4.c 3 _ rfl
  have g4 := k4.c 4 _ rfl
  have g5 := k4.c 5 _ rfl
  have g6 := k4.c 6 _ rfl
  refine bodyPost_ret (v := .tuple #[.agg #[.int .i64 ve.shards, .int .i64 ve.ttl, .int .i64 ve.session, .slice V ve.secs.length vc, .int .i64 now, .slice A seats.length ac, .slice B waiting.length bc], .int .i64 0, .int .i64 G]) (by simp [results, Tryz.results24, go_sem, g0, g1, g2, g3, g4, g5, g6]) rfl ⟨⟨V, vc, A, ac, B, bc⟩, by rw [hN.out], by rw [hN.out]; exact HR.out.up hb2, hb2, .inl ⟨rfl, by rw [hN.out]⟩⟩
 subst hG
 have hao := hok.out rfl
 have hsz : seats.length ≤ 4096 ∧ waiting.length ≤ 8 := by
  have h1 := hao.hn
  have h2 := hao.hw
  have h3 := checkV_ok hao.hc
  have h4 := h3.1.1
  dsimp only at h1 h2 h3 h4
  omega
 have HAO := Lib.hid hao
 have hN := Lib.hid (show stepA ⟨ve, now, seats, waiting⟩ op rp = readA ⟨ve, now, seats, waiting⟩ op rp by rw [hT.out, if_neg (by simp)])
 have hmk1 := mk_seatsA seats.length (by omega)
 have hmk2 := mk_ints waiting.length (by omega)
 clear hao hT hok
 go_wp2_with fail
 obtain ⟨g, hg⟩ : ∃ g, w1.heap.size = g := ⟨_, rfl⟩
 rw [hg]
 obtain ⟨rd, hrd⟩ : ∃ rd : List Value, rd = auCells (ownF V vc (g + 1) (g + 1 + 1) ⟨ve, now, seats, waiting⟩) ⟨ve, now, seats, waiting⟩ ++ opCells noOp ++ rpCells noRp := ⟨_, rfl⟩
 have HRD := Lib.hid hrd
 refine at_world (fun w => Below W.heap.size W w ∧ Cells w q cs ∧ Cells w (q + 1) xs ∧ Cells w (q + 1 + 1) [.int .i64 0, .int .i64 0, .int .i64 0, .slice none 0 0, .int .i64 0, .slice none 0 0, .slice none 0 0] ∧ Cells w g rd ∧
    Own seR 107 W.heap.size w (.slice (some ⟨g + 1, 0, none⟩) seats.length seats.length) (List.replicate seats.length zeroSe) ∧ Own intR 3 W.heap.size w (.slice (some ⟨g + 1 + 1, 0, none⟩) waiting.length waiting.length) (List.replicate waiting.length 0))
  ⟨bal (bal (bal HB1.out)), ((KA.out.alloc _).alloc _).alloc _, ((KX.out.alloc _).alloc _).alloc _, ((KR.out.alloc _).alloc _).alloc _, by rw [hrd]; exact ((Cells.newQ' _ _ _ _ hg.symm).alloc _).alloc _,
    by
      have h := (own_seatsA (w1.alloc (.cells rd.toArray 103)) seats.length (by omega)).mono (B' := W.heap.size) (by have := HB1.out.size; simp; omega)
      rw [World.size_alloc, hg, hrd] at h
      exact h.up (ba _ _),
    by
      have h := (own_zerosA ((w1.alloc (.cells rd.toArray 103)).alloc (.cells (madeCells zeroC (seats.length * 6)) 107)) waiting.length (by omega)).mono (B' := W.heap.size) (by have := HB1.out.size; simp; omega)
      rw [World.size_alloc, World.size_alloc, hg, hrd] at h
      exact h⟩ fun w2 ⟨hb2, ka, kx, kr, kg, o1, o2⟩ => ?_
 have hqg : q + 1 + 1 < g := by have := KR.out.lt; omega
 have HB2 := Lib.hid hb2
 have KA2 := Lib.hid ka
 have KX2 := Lib.hid kx
 have KR2 := Lib.hid kr
 have KG2 := Lib.hid kg
 have O1 := Lib.hid o1
 have O2 := Lib.hid o2
 clear hb2 ka kx kr kg o1 o2 KA KX KR HB1 c0 c1 c2 c3 c4 c5 c6 d0 d1 d2 d3 d4 d5 d6 f0 f1 f2 f3 f4 f5 f6 y0 y1 hmk1 hmk2 hg hrd
 have kg := KG2.out
 rw [HRD.out] at kg
 have g5 := kg.c 5 _ rfl
 have ka := KA2.out
 rw [HCS.out] at ka
 have c5 := ka.c 5 _ rfl
 have y0 := ka.lt
 have y1 := kg.lt
 simp only [ownF] at g5
 clear ka kg
 refine wp_region_still_tail 7 (by kernel_rfl) (by kernel_rfl) ?_
 simp only [List.take_succ_cons, List.take_zero, List.drop_succ_cons, List.drop_zero, World.drew_eq]
 repeat still_step
 refine wpStill_nil ?_
 clear c5 y0 y1 g5
 obtain ⟨cur, hcur, hcz⟩ := (O1.out.up (bdd (Below.refl _ _))).row
 obtain ⟨sc, hm, hsrc⟩ := (HR.out.ss.up (bdd HB2.out)).cells
 have hml := seR.many_len hm
 refine wpList_copy_all rfl (.tmp 39) (.tmp 41) 64 64 rfl 107 6 seats.length (g + 1) seats.length A ac cur 107 sc Tryz.underlying64 (by kernel_rfl) rfl rfl hcur hml hcz hsrc (seR.many_ones hm) ?_
 have hgr := grownBy_setRowA w2.drew (g + 1) sc.toArray
 have hrow := setRow_heap w2.drew (g + 1) cur sc.toArray 107 _ hcur
 have hWg : W.heap.size ≤ g := by have := HQ.out; omega
 have hBg : W.heap.size ≤ g + 1 := by omega
 refine at_world (fun w => Below W.heap.size W w ∧ Cells w q cs ∧ Cells w (q + 1) xs ∧ Cells w (q + 1 + 1) [.int .i64 0, .int .i64 0, .int .i64 0, .slice none 0 0, .int .i64 0, .slice none 0 0, .slice none 0 0] ∧ Cells w g rd ∧
    Own seR 107 W.heap.size w (.slice (some ⟨g + 1, 0, none⟩) seats.length seats.length) seats ∧ Own intR 3 W.heap.size w (.slice (some ⟨g + 1 + 1, 0, none⟩) waiting.length waiting.length) (List.replicate waiting.length 0))
  ⟨below_setRow (bdd HB2.out) hBg _, KA2.out.drew.grown hgr (fun e => by injection e with e; omega), KX2.out.drew.grown hgr (fun e => by injection e with e; omega), KR2.out.drew.grown hgr (fun e => by injection e with e; omega), KG2.out.drew.grown hgr (fun e => by injection e with e; omega),
    own_filled hBg hrow (Rep.many_flat seR_flat hm) rfl (by omega), (O2.out.up (bdd (Below.refl _ _))).kept hgr (fun k hk e => by simp [Value.ownBlock] at hk e; omega) (fun cs y h => intR_flat _ _ _ _ h)⟩ fun w3 ⟨hb3, ka, kx, kr, kg, o1, o2⟩ => ?_
 have HB3 := Lib.hid hb3
 have KA3 := Lib.hid ka
 have KX3 := Lib.hid kx
 have KR3 := Lib.hid kr
 have KG3 := Lib.hid kg
 have P1 := Lib.hid o1
 have P2 := Lib.hid o2
 clear hb3 ka kx kr kg o1 o2 KA2 KX2 KR2 HB2 KG2 O1 O2 hrow hgr hcur hcz hm hsrc hml
 have kg := KG3.out
 rw [HRD.out] at kg
 have g6 := kg.c 6 _ rfl
 have ka := KA3.out
 rw [HCS.out] at ka
 have c6 := ka.c 6 _ rfl
 have y0 := ka.lt
 have y1 := kg.lt
 simp only [ownF] at g6
 clear ka kg
 go_wp2_with fail
 refine wp_region_still_tail 7 (by kernel_rfl) (by kernel_rfl) ?_
 simp only [List.take_succ_cons, List.take_zero, List.drop_succ_cons, List.drop_zero, World.drew_eq]
 repeat still_step
 refine wpStill_nil ?_
 clear c6 y0 y1 g6
 obtain ⟨cur2, hcur, hcz⟩ := (P2.out.up (bdd (Below.refl _ _))).row
 obtain ⟨sc2, hm, hsrc⟩ := (HR.out.ws.up (bdd HB3.out)).cells
 have hml := intR.many_len hm
 refine wpList_copy_all rfl (.tmp 47) (.tmp 49) 65 65 rfl 3 1 waiting.length (g + 1 + 1) waiting.length B bc cur2 3 sc2 Tryz.underlying65 (by kernel_rfl) rfl rfl hcur hml hcz hsrc (intR.many_ones hm) ?_
 have hgr := grownBy_setRowA w3.drew (g + 1 + 1) sc2.toArray
 have hrow := setRow_heap w3.drew (g + 1 + 1) cur2 sc2.toArray 3 _ hcur
 have hBg2 : W.heap.size ≤ g + 1 + 1 := by omega
 refine at_world (fun w => RdO W w g (g + 1) (g + 1 + 1) V vc ⟨ve, now, seats, waiting⟩ noOp noRp ∧ Cells w q cs ∧ Cells w (q + 1) xs ∧ Cells w (q + 1 + 1) [.int .i64 0, .int .i64 0, .int .i64 0, .slice none 0 0, .int .i64 0, .slice none 0 0, .slice none 0 0])
  ⟨⟨below_setRow (bdd HB3.out) hBg2 _, by omega, by omega, by omega, by omega, by rw [← HRD.out]; exact KG3.out.drew.grown hgr (fun e => by injection e with e; omega), HR.out.vs,
    (P1.out.up (bdd (Below.refl _ _))).kept hgr (fun k hk e => by simp [Value.ownBlock] at hk e; omega) (fun cs y h => seR_flat _ _ _ _ h), own_filled hBg2 hrow (Rep.many_flat intR_flat hm) rfl (by show waiting.length ≤ 1000000; omega), HR.out.bv, HR.out.bn, by simp [Bd, OpOk, noOp, noTk, TkOk, U32, U64], by simp [Bd, RpOk, noRp, noTk, TkOk, U32, U64]⟩,
    KA3.out.drew.grown hgr (fun e => by injection e with e; omega), KX3.out.drew.grown hgr (fun e => by injection e with e; omega), KR3.out.drew.grown hgr (fun e => by injection e with e; omega)⟩ fun w4 ⟨rd4, ka, kx, kr⟩ => ?_
 have HR4 := Lib.hid rd4
 have KA4 := Lib.hid ka
 have KX4 := Lib.hid kx
 have KR4 := Lib.hid kr
 clear rd4 ka kx kr KA3 KX3 KR3 HB3 KG3 P1 P2 hrow hgr hcur hcz hm hsrc hml HRD
 have CR := Lib.hid (read_any HR4.out HAO.out HOR.out.1 HOR.out.2)
 rw [HST.out] at CR
 have hre := Lib.hid (fun h => readA_err (s := ⟨ve, now, seats, waiting⟩) (op := op) (rp := rp) h)
 unfold ReadPost at CR
 obtain ⟨RR, hRR⟩ : ∃ RR, readA ⟨ve, now, seats, waiting⟩ op rp = RR := ⟨_, rfl⟩
 rw [hRR] at CR hre
 have hS := Lib.hid (hN.out.trans hRR)
 have hve := Lib.hid (show RR.2.2.ve = ve by rw [← hRR]; exact read_ve _ _ _)
 clear hRR
 obtain ⟨rule, er, s'⟩ := RR
 simp only at CR hre
 have hsz' : (Tryz.prog.info? 73).map (·.size) = some xs.length := by rw [hxl]; kernel_rfl
 have HSZ := Lib.hid hsz'
 clear hsz'
 go_wp2_with (refine wpList_load_mid rfl 73 (.tmp 3) rfl (q + 1) 0 rfl xs _ KX4.out.range Tryz.underlying73 rfl HSZ.out ?_)
 refine CR.out.mono ?_
 rintro e w5 ⟨rfl, ⟨op2, rp2, R5⟩, ho5⟩
 have HR5 := Lib.hid R5
 have KA5 := Lib.hid (KA4.out.keep3 ho5 (by omega) (by omega) (by omega))
 have KR5 := Lib.hid (KR4.out.keep3 ho5 (by omega) (by omega) (by omega))
 clear R5 ho5 KA4 KX4 KR4 CR
 have kr := KR5.out
 have d0 := kr.c 0 _ rfl
 have d1 := kr.c 1 _ rfl
 have d2 := kr.c 2 _ rfl
 have d3 := kr.c 3 _ rfl
 have d4 := kr.c 4 _ rfl
 have d5 := kr.c 5 _ rfl
 have d6 := kr.c 6 _ rfl
 have f0 := kr.f 0
 have f1 := kr.f 1
 have f2 := kr.f 2
 have f3 := kr.f 3
 have f4 := kr.f 4
 have f5 := kr.f 5
 have f6 := kr.f 6
 have y1 := kr.lt
 clear kr
 have hq3 : W.heap.size ≤ q + 1 + 1 := by have := HQ.out; omega
 by_cases he : er = 0
 case neg => as_aux_lemma =>
  obtain ⟨hr1, hr2⟩ := hre.out he
  subst hr1 hr2
  have t0 : (er != 0) = true := by simpa using he
  have ka := KA5.out
  rw [HCS.out] at ka
  have c0 := ka.c 0 _ rfl
  have c1 := ka.c 1 _ rfl
  have c2 := ka.c 2 _ rfl
  have c3 := ka.c 3 _ rfl
  have c4 := ka.c 4 _ rfl
  have c5 := ka.c 5 _ rfl
  have c6 := ka.c 6 _ rfl
  have y0 := ka.lt
  clear ka
  go_wp2_with fail
  obtain ⟨k3, hg⟩ := KR5.out.put [.int .i64 ve.shards, .int .i64 ve.ttl, .int .i64 ve.session, .slice V ve.secs.length vc, .int .i64 now, .slice A seats.length ac, .slice B waiting.length bc] rfl
  refine at_world (fun w => Below W.heap.size W w ∧ Cells w (q + 1 + 1) [.int .i64 ve.shards, .int .i64 ve.ttl, .int .i64 ve.session, .slice V ve.secs.length vc, .int .i64 now, .slice A seats.length ac, .slice B waiting.length bc]) ⟨HR5.out.bw.grown hg (by have := HR5.out.bw.size; omega) (fun j hj => by injection hj with hj; omega), k3⟩ fun w6 ⟨hb6, k4⟩ => ?_
  have g0 := k4.c 0 _ rfl
  have g1 := k4.c 1 _ rfl
  have g2 := k4.c 2 _ rfl
  have g3 := k4.c 3 _ rfl
  have g4 := k4.c 4 _ rfl
  have g5 := k4.c 5 _ rfl
  have g6 := k4.c 6 _ rfl
  refine bodyPost_ret (v := .tuple #[.agg #[.int .i64 ve.shards, .int .i64 ve.ttl, .int .i64 ve.session, .slice V ve.secs.length vc, .int .i64 now, .slice A seats.length ac, .slice B waiting.length bc], .int .i64 0, .int .i64 er]) (by simp [results, Tryz.results24, go_sem, g0, g1, g2, g3, g4, g5, g6]) rfl ⟨⟨V, vc, A, ac, B, bc⟩, by rw [hS.out], by rw [hS.out]; exact HR.out.up hb6, hb6, .inl ⟨rfl, by rw [hS.out]⟩⟩
 as_aux_lemma =>
  subst he
  clear hre
  obtain ⟨ve', now', seats', waiting'⟩ := s'
  have ka := HR5.out.cs
  have c0 := ka.c 0 _ rfl
  have c1 := ka.c 1 _ rfl
  have c2 := ka.c 2 _ rfl
  have c3 := ka.c 3 _ rfl
  have c4 := ka.c 4 _ rfl
  have c5 := ka.c 5 _ rfl
  have c6 := ka.c 6 _ rfl
  have y0 := ka.lt
  simp only [ownF] at c3 c5 c6
  dsimp only at c0 c1 c2 c3 c4 c5 c6
  clear ka
  go_wp2_with fail
  obtain ⟨k3, hg⟩ := KR5.out.put [.int .i64 ve'.shards, .int .i64 ve'.ttl, .int .i64 ve'.session, .slice V ve'.secs.length vc, .int .i64 now', .slice (some ⟨g + 1, 0, none⟩) seats'.length seats'.length, .slice (some ⟨g + 1 + 1, 0, none⟩) waiting'.length waiting'.length] rfl
  refine at_world (fun w => RdO W w g (g + 1) (g + 1 + 1) V vc ⟨ve', now', seats', waiting'⟩ op2 rp2 ∧ Cells w (q + 1 + 1) [.int .i64 ve'.shards, .int .i64 ve'.ttl, .int .i64 ve'.session, .slice V ve'.secs.length vc, .int .i64 now', .slice (some ⟨g + 1, 0, none⟩) seats'.length seats'.length, .slice (some ⟨g + 1 + 1, 0, none⟩) waiting'.length waiting'.length])
   ⟨HR5.out.grown hg (fun k hk => by injection hk with hk; omega) (fun e => by injection e with e; omega) (fun e => by injection e with e; omega) (fun e => by injection e with e; omega), k3⟩ fun w6 ⟨r6, k4⟩ => ?_
  have g0 := k4.c 0 _ rfl
  have g1 := k4.c 1 _ rfl
  have g2 := k4.c 2 _ rfl
  have g3 := k4.c 3 _ rfl
  have g4 := k4.c 4 _ rfl
  have g5 := k4.c 5 _ rfl
  have g6 := k4.c 6 _ rfl
  refine bodyPost_ret (v := .tuple #[.agg #[.int .i64 ve'.shards, .int .i64 ve'.ttl, .int .i64 ve'.session, .slice V ve'.secs.length vc, .int .i64 now', .slice (some ⟨g + 1, 0, none⟩) seats'.length seats'.length, .slice (some ⟨g + 1 + 1, 0, none⟩) waiting'.length waiting'.length], .int .i64 rule, .int .i64 0]) (by simp [results, Tryz.results24, go_sem, g0, g1, g2, g3, g4, g5, g6]) rfl
   ⟨⟨V, vc, some ⟨g + 1, 0, none⟩, seats'.length, some ⟨g + 1 + 1, 0, none⟩, waiting'.length⟩, by rw [hS.out], by rw [hS.out]; exact ⟨r6.vs.up r6.bw, r6.ss.sl, r6.ws.sl, r6.bv, r6.bn⟩, r6.bw, .inr (by rw [hS.out]; exact ⟨rfl, rfl, hve.out, r6.ss, r6.ws⟩)⟩
end Go.Proofs.YtlckmjiioohcmaaGreatDoor
