/-
  Walk of the law ModelEnds. Conditions: the pinned table lies where it was laid.
-/
import Derived.Test.YtinbjfkkpcpokaaGreatDoorLmF
import Derived.Test.YtinbjfkkpcpokaaGreatDoorPlMe
import Derived.BigQuiet
namespace Go.Proofs.YtinbjfkkpcpokaaGreatDoor
open Go.RowKit

set_option maxRecDepth 20000 in
set_option maxHeartbeats 8000000 in
theorem lawEnds_any {w : World} (se ep ow too : Int) (h1 : U64 se) (h2 : U64 ep) (h3 : U32 ow) (h4 : U32 too) (hu : UsesAt w) :
    Calls Tryz.prog 5 #[.agg #[.int .u64 se, .int .u64 ep, .int .u32 ow, .int .u32 too]] w fun e w' => e = .returned (.bool true) ∧ Below w.heap.size w w' := by
  have HU := Lib.hid hu
  have N1 := Lib.hid (en1 ow se ep)
  have N2 := Lib.hid (en2 ow too se ep)
  have N3 := Lib.hid (en3 ow se ep)
  have X1 := Lib.hid (show SxOk (enX 1 ow 5 se ep) from ⟨by simp [enX, Bd], h3, by simp [enX, Bd], h1, h2⟩)
  have X2 := Lib.hid (show SxOk (enX 2 ow 0 se ep) from ⟨by simp [enX, Bd], h3, by simp [enX, Bd], h1, h2⟩)
  have P1 := Lib.hid (show OpOk (enOp1 ow) from ⟨by simp [enOp1, Bd], h3, by simp [enOp1, Bd], by simp [enOp1, Bd], by simp [enOp1, Bd], by simp [enOp1, Bd], by simp [enOp1, U32], by simp [enOp1, TkOk, noTk, U32, U64], by simp [enOp1, Bd]⟩)
  have P2 := Lib.hid (show OpOk (enOp2 ow too se ep) from ⟨by simp [enOp2, Bd], h3, by simp [enOp2, Bd], by simp [enOp2, Bd], by simp [enOp2, Bd], by simp [enOp2, Bd], h4, ⟨by simp [enOp2, U32], h3, h1, h2⟩, by simp [enOp2, Bd]⟩)
  have P3 := Lib.hid (show OpOk enOp3 from ⟨by simp [enOp3, Bd], by simp [enOp3, U32], by simp [enOp3, Bd], by simp [enOp3, Bd], by simp [enOp3, Bd], by simp [enOp3, Bd], by simp [enOp3, U32], by simp [enOp3, TkOk, noTk, U32, U64], by simp [enOp3, Bd]⟩)
  clear hu h1 h2 h3 h4
  go_enter Tryz.func5, Tryz.ntmps5
  go_upto_region 1 with fail
  refine at_world (fun X => Below w.heap.size w X ∧ BoxN X w.heap.size 47 #[.int .u64 se, .int .u64 ep, .int .u32 ow, .int .u32 too]) ⟨ba _ _, BoxN.new _ _ _⟩ fun w0 hw0 => ?_
  have B0 := Lib.hid hw0.1
  have a0 := hw0.2.cell 0 _ rfl
  have a1 := hw0.2.cell 1 _ rfl
  have a2 := hw0.2.cell 2 _ rfl
  have a3 := hw0.2.cell 3 _ rfl
  have z0 := hw0.2.lt
  clear hw0
  go_quiet (fail)
  refine at_world (fun X => Below w.heap.size w X) (bdN B0.out _) fun w1 hb1 => ?_
  have B1 := Lib.hid hb1
  clear hb1 B0
  clear a0 a1 a2 a3 z0
  go_wp2_with fail
  refine (lmV_any _).mono ?_
  rintro e w2 ⟨V, vc, rfl, hV, hb⟩
  have B2 := Lib.hid (B1.out.trans (hb.mono B1.out.size))
  have CN := Lib.hid (new2_any (x := lmV) hV (by simp [lmV, Bd]) (by simp [lmV, Bd]) (by simp [lmV, Bd]))
  have HV2 := Lib.hid hV
  clear hV hb B1
  unfold NewPost2 at CN
  rw [lm_new] at CN
  simp only [true_implies] at CN
  go_wp2_with fail
  refine CN.out.mono ?_
  rintro e w3 ⟨F, rfl, hb, hI, hown⟩
  obtain ⟨hfv, hfc, g, h, hfa, hfq, ho1, ho2⟩ := hown
  obtain ⟨V', vc', A', ac, Q', qc⟩ := F
  simp only at hfa hfq ho1 ho2 hfv hfc
  subst hfa hfq hfv hfc
  have M3 := Lib.hid (show NewMem w2 w3 ⟨V', vc', some ⟨g, 0, none⟩, ac, some ⟨h, 0, none⟩, qc⟩ g h lmS from ⟨hb, HV2.out, rfl, rfl, ho1, ho2, by simp [lmS], ⟨hI.shards, hI.ttl, hI.session⟩, hI.now⟩)
  have B3 := Lib.hid (B2.out.trans (hb.mono B2.out.size))
  obtain ⟨lo, hlow⟩ : ∃ lo, w2.heap.size = lo := ⟨_, rfl⟩
  have hlw : w.heap.size ≤ lo := by have := B2.out.size; omega
  have hl3 : lo ≤ w3.heap.size := by have := hb.size; omega
  clear hb hI ho1 ho2 CN B2 HV2
  obtain ⟨F, hF⟩ : ∃ F : MFrm, F = ⟨V', vc', some ⟨g, 0, none⟩, ac, some ⟨h, 0, none⟩, qc⟩ := ⟨_, rfl⟩
  rw [← hF] at M3 ⊢
  have HF5 := Lib.hid (show ∀ s : Md, (mdCells F s).toArray[5]? = some (.slice (some ⟨g, 0, none⟩) s.seats.length ac) from fun s => by rw [hF]; rfl)
  have HF6 := Lib.hid (show F.ac = ac by rw [hF])
  clear hF
  have MV := Lib.hid (show ∀ F s, mdV F s = .agg (mdCells F s).toArray from fun _ _ => rfl)
  have HMC := Lib.hid (show ∀ st o d se ep, mdCells F (enS st o d se ep) = mdCells F lmS from fun _ _ _ _ _ => rfl)
  rw [MV.out F]
  obtain ⟨ms, hms⟩ : ∃ ms : List Value, ms = mdCells F lmS := ⟨_, rfl⟩
  have S7 := Lib.hid (show (Tryz.prog.info? 29).map (·.size) = some ms.length by rw [hms]; kernel_rfl)
  have S7A := Lib.hid (show (Tryz.prog.info? 29).map (·.size) = some ms.toArray.size by rw [hms]; kernel_rfl)
  have O7 := Lib.hid (show ms.toArray.all (·.oneCell') = true by rw [hms]; simp [mdCells, Value.oneCell'])
  have L7 := Lib.hid (show ms.toArray.size = 7 by rw [hms]; rfl)
  have M5 := Lib.hid (show ms.toArray[5]? = some (.slice (some ⟨g, 0, none⟩) 2 ac) by rw [hms]; exact HF5.out lmS)
  rw [← hms] at HMC ⊢
  clear hms HF5
  have C1 := Lib.hid (fun W (hk : MdKeep lo W F (enS 1 ow 5 se ep)) (hl : lo ≤ W.heap.size) (hb : Below w.heap.size w W) => mDo_any lo F (enS 1 ow 5 se ep) (enOp1 ow) W hk hl (md_small (enS_ok1 _ _ _)) P1.out (HU.out.up hb HU.out.1))
  have C2 := Lib.hid (fun W (hk : MdKeep lo W F (enS 2 ow 0 se ep)) (hl : lo ≤ W.heap.size) (hb : Below w.heap.size w W) => mDo_any lo F (enS 2 ow 0 se ep) (enOp2 ow too se ep) W hk hl (md_small (enS_ok2 _ _ _)) P2.out (HU.out.up hb HU.out.1))
  have C3 := Lib.hid (fun W (hk : MdKeep lo W F (enS 2 ow 0 se ep)) (hl : lo ≤ W.heap.size) (hb : Below w.heap.size w W) => mDo_any lo F (enS 2 ow 0 se ep) enOp3 W hk hl (md_small (enS_ok2 _ _ _)) P3.out (HU.out.up hb HU.out.1))
  unfold MDoPost at C1 C2 C3
  rw [mdoM_ok (enS_ok1 _ _ _), MV.out F, HMC.out] at C1
  rw [mdoM_ok (enS_ok2 _ _ _), MV.out F, HMC.out] at C2 C3
  generalize doM (enS 1 ow 5 se ep) (enOp1 ow) = D1 at N1 C1
  generalize doM (enS 2 ow 0 se ep) (enOp2 ow too se ep) = D2 at N2 C2
  generalize doM (enS 2 ow 0 se ep) enOp3 = D3 at N3 C3
  obtain ⟨n1, r1, f1⟩ := D1
  obtain ⟨n2, r2, f2⟩ := D2
  obtain ⟨n3, r3, f3⟩ := D3
  simp only at C1 C2 C3
  have hf1 : f1 = 0 := N1.out.1
  have hf2 : f2 = 0 := N2.out.1
  have hf3 : f3 = 0 := N3.out.1
  subst hf1 hf2 hf3
  go_upto_region 3 with (refine wpList_store_row rfl 29 (.tmp 7) (.tmp 22) rfl w3.heap.size ms.toArray rfl rfl 29 _ (BoxN.new _ _ _) S7A.out L7.out.symm O7.out ?_)
  obtain ⟨q, hq⟩ : ∃ q, w3.heap.size = q := ⟨_, rfl⟩
  rw [hq]
  have hbn : BoxN (w3.alloc (.cells #[.int .i64 0, .int .i64 0, .int .i64 0, .slice none 0 0, .int .i64 0, .slice none 0 0, .slice none 0 0] 29)) q 29 #[.int .i64 0, .int .i64 0, .int .i64 0, .slice none 0 0, .int .i64 0, .slice none 0 0, .slice none 0 0] := hq ▸ BoxN.new w3 29 #[.int .i64 0, .int .i64 0, .int .i64 0, .slice none 0 0, .int .i64 0, .slice none 0 0, .slice none 0 0]
  have hrow := grownBy_setRow hbn ms.toArray
  refine at_world (fun X => Below w.heap.size w X ∧ BoxN X q 29 ms.toArray ∧ NewMem w2 X F g h lmS) ⟨(bal B3.out).grown hrow.1 (by have := B3.out.size; simp; omega) (fun k hk => by injection hk with hk; have := B3.out.size; omega), hrow.2, (M3.out.up (ba _ _)).box hrow.1 (Tag.of_box hbn) (by omega) (by decide) (by decide) (by decide)⟩ fun w4 hw4 => ?_
  have B4 := Lib.hid hw4.1
  have K4 := Lib.hid hw4.2.1
  have M4 := Lib.hid hw4.2.2
  have hlq : lo ≤ q := by omega
  clear hbn hrow hw4 B3 M3 hq
  have a5 := K4.out.cell 5 _ M5.out
  have z5 := K4.out.lt
  obtain ⟨hs1, hs2⟩ := M4.out.set (k := 0) (by decide) X1.out
  simp only [putAt, sxCells, Nat.zero_mul, Nat.zero_add, Nat.reduceAdd] at hs1 hs2
  have HE := Lib.hid (And.intro hs1 hs2)
  obtain ⟨ds, ⟨hds, _⟩, hd, hf⟩ := M4.out.ss.cell_ (k := 0) (by decide)
  rw [hds] at hd
  have d0 := hd 0 _ rfl
  have d1 := hd 1 _ rfl
  have d2 := hd 2 _ rfl
  have d3 := hd 3 _ rfl
  have d4 := hd 4 _ rfl
  have e0 := hf 0
  have e1 := hf 1
  have e2 := hf 2
  have e3 := hf 3
  have e4 := hf 4
  have zg := M4.out.ss.block.2
  simp only [sxR, Nat.zero_mul, Nat.zero_add, Nat.add_zero] at d0 d1 d2 d3 d4
  clear hs1 hs2 hds hd hf
  go_upto_region 8 with fail
  have hne : q ≠ g := (Tag.of_box K4.out).ne (Tag.of_own M4.out.ss) (by decide)
  have hge := M4.out.ss.block.1
  refine at_world (fun X => Below w.heap.size w X ∧ BoxN X q 29 ms.toArray ∧ NewMem w2 X F g h (enS 1 ow 5 se ep)) ⟨B4.out.grown HE.out.2 B4.out.size (fun k hk => by injection hk with hk; omega), K4.out.kept HE.out.2 (fun e => hne (by injection e)), HE.out.1⟩ fun w5 hX => ?_
  have B5 := Lib.hid hX.1
  have K5 := Lib.hid hX.2.1
  have M5' := Lib.hid hX.2.2
  clear hX HE K4 M4 B4 a5 z5 d0 d1 d2 d3 d4 e0 e1 e2 e3 e4 zg
  have hl5 : lo ≤ w5.heap.size := by have := K5.out.lt; omega
  go_wp2_with (refine wpList_load_mid rfl 29 (.tmp 7) rfl q 0 rfl ms _ K5.out.range2 Tryz.underlying29 rfl S7.out ?_)
  refine (C1.out _ (hlow ▸ M5'.out.keep) hl5 B5.out).mono ?_
  rintro e w6 ⟨F1, rfl, hb, hk⟩
  have B6 := Lib.hid (B5.out.trans (hb.mono B5.out.size))
  have K6 := Lib.hid (K5.out.later hb)
  have M6 := Lib.hid (M5'.out.up hb)
  have HK6 := Lib.hid hk
  clear hb hk B5 K5 M5' C1
  have S91 := Lib.hid (show (Tryz.prog.info? 29).map (·.size) = some (mdCells F1 n1).length by kernel_rfl)
  have S9A := Lib.hid (show (Tryz.prog.info? 29).map (·.size) = some (mdCells F1 n1).toArray.size by kernel_rfl)
  have O9 := Lib.hid (show (mdCells F1 n1).toArray.all (·.oneCell') = true by simp [mdCells, Value.oneCell'])
  have L91 := Lib.hid (show (mdCells F1 n1).toArray.size = 7 by rfl)
  have S8A := Lib.hid (show (Tryz.prog.info? 56).map (·.size) = some (rpCells r1).toArray.size by kernel_rfl)
  have O8 := Lib.hid (show (rpCells r1).toArray.all (·.oneCell') = true by simp [rpCells, Value.oneCell'])
  have V8 := Lib.hid (show RpV r1 = .agg (rpCells r1).toArray from rfl)
  rw [MV.out F1, V8.out]
  obtain ⟨hs1, hhs⟩ : ∃ hs : List Value, hs = mdCells F1 n1 := ⟨_, rfl⟩
  rw [← hhs]
  rw [← hhs] at S91 S9A O9 L91
  have HHS1 := Lib.hid hhs
  clear hhs V8
  go_upto_region 9 with (first | refine wpList_store_row rfl 29 (.tmp 9) (.tmp 42) rfl w6.heap.size hs1.toArray rfl rfl 29 _ (two_boxes rfl _ _ _ _).2.1 S9A.out L91.out.symm O9.out ?_ | refine wpList_store_row rfl 56 (.tmp 10) (.tmp 43) rfl (w6.heap.size + 1) (rpCells r1).toArray rfl rfl 56 _ (two_rows (two_boxes rfl _ _ _ _).2.1 (two_boxes rfl _ _ _ _).2.2 (by omega) _ #[]).1 S8A.out rfl O8.out ?_)
  have htb := two_boxes (W := w6) rfl #[.int .i64 0, .int .i64 0, .int .i64 0, .slice none 0 0, .int .i64 0, .slice none 0 0, .slice none 0 0] #[.int .i64 0, .int .i64 0, .int .i64 0, .int .i64 0, .int .u32 0, .int .u32 0, .int .u64 0, .int .u64 0, .int .i64 0] 29 56
  have hrow := two_rows htb.2.1 htb.2.2 (by omega) hs1.toArray (rpCells r1).toArray
  obtain ⟨b9, hb9⟩ : ∃ b, w6.heap.size = b := ⟨_, rfl⟩
  have hl6 : lo ≤ w6.heap.size := by have := K6.out.lt; omega
  have hbw : Below w6.heap.size w6 _ := (htb.1.grown hrow.2.1 htb.1.size (fun k hk => by injection hk with hk; omega)).grown hrow.2.2.1 (Nat.le_trans htb.1.size hrow.2.1.size) (fun k hk => by injection hk with hk; omega)
  refine at_world (fun X => Below w6.heap.size w6 X ∧ BoxN X w6.heap.size 29 hs1.toArray ∧ BoxN X (w6.heap.size + 1) 56 (rpCells r1).toArray) ⟨hbw, hrow.2.2.2.1, hrow.2.2.2.2⟩ fun x1 hX => ?_
  rw [hb9] at hX ⊢
  have D1 := Lib.hid (show Below w6.heap.size w6 x1 from hb9 ▸ hX.1)
  have BX1 := Lib.hid (B6.out.trans (D1.out.mono B6.out.size))
  have HQ1 := Lib.hid (K6.out.later D1.out)
  have HM1 := Lib.hid (M6.out.up D1.out)
  have HK1 := Lib.hid (HK6.out.up (Loose.of D1.out))
  have HS1 := Lib.hid hX.2.1
  have HR1 := Lib.hid hX.2.2
  have hl9 : lo ≤ b9 := by omega
  have hqb : q < b9 := by have := K6.out.lt; omega
  clear hX htb hrow hbw B6 K6 M6 HK6 D1 hb9
  have u0 := HR1.out.cell 0 (.int .i64 r1.err) rfl
  have zr := HR1.out.lt
  go_cut [65] from 45 to 64 (fun v W => v = .bool false ∧ Below x1.heap.size x1 W)
  case first => as_aux_lemma =>
    rcases N1.out.2 with ⟨herr, hmax, hst⟩ | ⟨herr, hmax⟩
    · have herr : r1.err = 17 := herr
      rw [herr] at u0
      have t1 : (se == (18446744073709551615 : Int)) = true := by simpa using hmax
      have CS := Lib.hid (sameMd_any (HM1.out.keep.isMd) (hst ▸ HK1.out.isMd : IsMd x1 F1 (enS 1 ow 5 se ep)))
      rw [MV.out F, HMC.out, MV.out F1] at CS
      have CS := Lib.hid (show Calls Tryz.prog 27 #[.agg ms.toArray, .agg hs1.toArray] x1 fun e w' => e = .returned (.bool true) ∧ Below x1.heap.size x1 w' from by
        have h := CS.out
        rw [HHS1.out, show n1 = enS 1 ow 5 se ep from hst]
        exact h)
      clear hmax hst herr
      go_wp2_with (first | refine wpList_load_midg rfl 29 (.tmp 7) rfl q 0 rfl ms _ HQ1.out.range2 Tryz.underlying29 rfl S7.out ?_ | refine wpList_load_midg rfl 29 (.tmp 9) rfl b9 0 rfl hs1 _ HS1.out.range2 Tryz.underlying29 rfl S91.out ?_)
      refine CS.out.mono ?_
      rintro e y ⟨rfl, hb⟩
      go_wp2_with fail
      go_meet
      exact ⟨rfl, hb⟩
    · have herr : r1.err = 0 := herr
      rw [herr] at u0
      have t1 : (se == (18446744073709551615 : Int)) = false := by simpa using hmax
      clear hmax herr
      go_wp2_with fail
      go_meet
      exact ⟨rfl, Below.refl _ _⟩
  case rest =>
  obtain ⟨rfl, hb⟩ := hcut
  have BC1 := Lib.hid (BX1.out.trans (hb.mono BX1.out.size))
  have QC1 := Lib.hid (HQ1.out.later hb)
  have MC1 := Lib.hid (HM1.out.up hb)
  have SC1 := Lib.hid (HS1.out.later hb)
  have RC1 := Lib.hid (HR1.out.later hb)
  clear hb u0 zr HQ1 HM1 HS1 HR1 BX1 HK1
  have a5 := QC1.out.cell 5 _ M5.out
  have z5 := QC1.out.lt
  obtain ⟨hs1', hs2'⟩ := MC1.out.set (k := 0) (show 0 < 2 by decide) X2.out
  rw [enS_again] at hs1'
  simp only [putAt, sxCells, Nat.zero_mul, Nat.zero_add, Nat.reduceAdd] at hs1' hs2'
  have HE := Lib.hid (And.intro hs1' hs2')
  obtain ⟨ds, ⟨hds, _⟩, hd, hf⟩ := MC1.out.ss.cell_ (k := 0) (show 0 < 2 by decide)
  rw [hds] at hd
  have d0 := hd 0 _ rfl
  have d1 := hd 1 _ rfl
  have d2 := hd 2 _ rfl
  have d3 := hd 3 _ rfl
  have d4 := hd 4 _ rfl
  have e0 := hf 0
  have e1 := hf 1
  have e2 := hf 2
  have e3 := hf 3
  have e4 := hf 4
  have zg := MC1.out.ss.block.2
  simp only [sxR, Nat.zero_mul, Nat.zero_add, Nat.add_zero] at d0 d1 d2 d3 d4
  clear hs1' hs2' hds hd hf
  go_upto_region 12 with fail
  have hne9 : b9 ≠ g := (Tag.of_box SC1.out).ne (Tag.of_own MC1.out.ss) (by decide)
  have hne10 : b9 + 1 ≠ g := (Tag.of_box RC1.out).ne (Tag.of_own MC1.out.ss) (by decide)
  refine at_world (fun X => Below w.heap.size w X ∧ BoxN X q 29 ms.toArray ∧ NewMem w2 X F g h (enS 2 ow 0 se ep) ∧ BoxN X b9 29 hs1.toArray ∧ BoxN X (b9 + 1) 56 (rpCells r1).toArray) ⟨BC1.out.grown HE.out.2 BC1.out.size (fun k hk => by injection hk with hk; omega), QC1.out.kept HE.out.2 (fun e => hne (by injection e)), HE.out.1, SC1.out.kept HE.out.2 (fun e => hne9 (by injection e)), RC1.out.kept HE.out.2 (fun e => hne10 (by injection e))⟩ fun w5 hX => ?_
  have B5 := Lib.hid hX.1
  have K5 := Lib.hid hX.2.1
  have M5' := Lib.hid hX.2.2.1
  have T5 := Lib.hid hX.2.2.2.1
  have R5 := Lib.hid hX.2.2.2.2
  clear hX HE BC1 QC1 MC1 SC1 RC1 a5 z5 d0 d1 d2 d3 d4 e0 e1 e2 e3 e4 zg
  have hl5 : lo ≤ w5.heap.size := by have := K5.out.lt; omega
  go_wp2_with (refine wpList_load_mid rfl 29 (.tmp 7) rfl q 0 rfl ms _ K5.out.range2 Tryz.underlying29 rfl S7.out ?_)
  refine (C2.out _ (hlow ▸ M5'.out.keep) hl5 B5.out).mono ?_
  rintro e w6 ⟨F2, rfl, hb, hk⟩
  have B6 := Lib.hid (B5.out.trans (hb.mono B5.out.size))
  have K6 := Lib.hid (K5.out.later hb)
  have M6 := Lib.hid (M5'.out.up hb)
  have T6 := Lib.hid (T5.out.later hb)
  have R6 := Lib.hid (R5.out.later hb)
  have HK6 := Lib.hid hk
  clear hb hk B5 K5 M5' T5 R5 C2
  have S92 := Lib.hid (show (Tryz.prog.info? 29).map (·.size) = some (mdCells F2 n2).length by kernel_rfl)
  have S9A := Lib.hid (show (Tryz.prog.info? 29).map (·.size) = some (mdCells F2 n2).toArray.size by kernel_rfl)
  have O9 := Lib.hid (show (mdCells F2 n2).toArray.all (·.oneCell') = true by simp [mdCells, Value.oneCell'])
  have L92 := Lib.hid (show (mdCells F2 n2).toArray.size = 7 by rfl)
  have S8A := Lib.hid (show (Tryz.prog.info? 56).map (·.size) = some (rpCells r2).toArray.size by kernel_rfl)
  have O8 := Lib.hid (show (rpCells r2).toArray.all (·.oneCell') = true by simp [rpCells, Value.oneCell'])
  have V8 := Lib.hid (show RpV r2 = .agg (rpCells r2).toArray from rfl)
  rw [MV.out F2, V8.out]
  obtain ⟨hs2, hhs⟩ : ∃ hs : List Value, hs = mdCells F2 n2 := ⟨_, rfl⟩
  rw [← hhs]
  rw [← hhs] at S92 S9A O9 L92
  have HHS2 := Lib.hid hhs
  clear hhs V8
  have hrow := two_rows T6.out R6.out (by omega) hs2.toArray (rpCells r2).toArray
  go_upto_region 13 with (first | refine wpList_store_row rfl 29 (.tmp 9) (.tmp 83) rfl b9 hs2.toArray rfl rfl 29 _ T6.out S9A.out (L91.out.trans L92.out.symm) O9.out ?_ | refine wpList_store_row rfl 56 (.tmp 10) (.tmp 84) rfl (b9 + 1) (rpCells r2).toArray rfl rfl 56 _ (two_rows T6.out R6.out (by omega) _ #[]).1 S8A.out rfl O8.out ?_)
  have hwb9 : w.heap.size ≤ b9 := by omega
  have hne9q : q ≠ b9 := by omega
  have hne10q : q ≠ b9 + 1 := by omega
  refine at_world (fun X => Below w.heap.size w X ∧ BoxN X q 29 ms.toArray ∧ NewMem w2 X F g h (enS 2 ow 0 se ep) ∧ MdKeep lo X F2 n2 ∧ BoxN X b9 29 hs2.toArray ∧ BoxN X (b9 + 1) 56 (rpCells r2).toArray)
    ⟨(B6.out.grown hrow.2.1 B6.out.size (fun k hk => by injection hk with hk; omega)).grown hrow.2.2.1 (Nat.le_trans B6.out.size hrow.2.1.size) (fun k hk => by injection hk with hk; omega), (K6.out.kept hrow.2.1 (fun e => hne9q (by injection e))).kept hrow.2.2.1 (fun e => hne10q (by injection e)), (M6.out.box hrow.2.1 (Tag.of_box T6.out) (by omega) (by decide) (by decide) (by decide)).box hrow.2.2.1 (Tag.of_box hrow.1) (by omega) (by decide) (by decide) (by decide),
      (HK6.out.up (Loose.grown hrow.2.1 (Tag.of_box T6.out) (by omega) (by decide) (by decide) (by decide))).up (Loose.grown hrow.2.2.1 (Tag.of_box hrow.1) (by omega) (by decide) (by decide) (by decide)), hrow.2.2.2.1, hrow.2.2.2.2⟩ fun x2 hX => ?_
  have BX2 := Lib.hid hX.1
  have HQ2 := Lib.hid hX.2.1
  have HM2 := Lib.hid hX.2.2.1
  have HK2 := Lib.hid hX.2.2.2.1
  have HS2 := Lib.hid hX.2.2.2.2.1
  have HR2 := Lib.hid hX.2.2.2.2.2
  clear hX hrow B6 K6 M6 HK6 T6 R6
  have u0 := HR2.out.cell 0 (.int .i64 r2.err) rfl
  have zr := HR2.out.lt
  go_cut [106] from 86 to 105 (fun v W => v = .bool false ∧ Below x2.heap.size x2 W)
  case first => as_aux_lemma =>
    rcases N2.out.2 with ⟨herr, hmax, hst⟩ | ⟨herr, hmax⟩
    · have herr : r2.err = 17 := herr
      rw [herr] at u0
      have t1 : (se == (18446744073709551615 : Int)) = true := by simpa using hmax
      have CS := Lib.hid (sameMd_any (HM2.out.keep.isMd) (hst ▸ HK2.out.isMd : IsMd x2 F2 (enS 2 ow 0 se ep)))
      rw [MV.out F, HMC.out, MV.out F2] at CS
      have CS := Lib.hid (show Calls Tryz.prog 27 #[.agg ms.toArray, .agg hs2.toArray] x2 fun e w' => e = .returned (.bool true) ∧ Below x2.heap.size x2 w' from by
        have h := CS.out
        rw [HHS2.out, show n2 = enS 2 ow 0 se ep from hst]
        exact h)
      clear hmax hst herr
      go_wp2_with (first | refine wpList_load_midg rfl 29 (.tmp 7) rfl q 0 rfl ms _ HQ2.out.range2 Tryz.underlying29 rfl S7.out ?_ | refine wpList_load_midg rfl 29 (.tmp 9) rfl b9 0 rfl hs2 _ HS2.out.range2 Tryz.underlying29 rfl S92.out ?_)
      refine CS.out.mono ?_
      rintro e y ⟨rfl, hb⟩
      go_wp2_with fail
      go_meet
      exact ⟨rfl, hb⟩
    · have herr : r2.err = 0 := herr
      rw [herr] at u0
      have t1 : (se == (18446744073709551615 : Int)) = false := by simpa using hmax
      clear hmax herr
      go_wp2_with fail
      go_meet
      exact ⟨rfl, Below.refl _ _⟩
  case rest =>
  obtain ⟨rfl, hb⟩ := hcut
  have BC2 := Lib.hid (BX2.out.trans (hb.mono BX2.out.size))
  have QC2 := Lib.hid (HQ2.out.later hb)
  have MC2 := Lib.hid (HM2.out.up hb)
  have SC2 := Lib.hid (HS2.out.later hb)
  have RC2 := Lib.hid (HR2.out.later hb)
  clear hb u0 zr HQ2 HM2 HS2 HR2 BX2 HK2
  have B5 := BC2
  have K5 := QC2
  have M5' := MC2
  have T5 := SC2
  have R5 := RC2
  clear BC2 QC2 MC2 SC2 RC2
  rename World => w5
  have hl5 : lo ≤ w5.heap.size := by have := K5.out.lt; omega
  go_wp2_with (refine wpList_load_mid rfl 29 (.tmp 7) rfl q 0 rfl ms _ K5.out.range2 Tryz.underlying29 rfl S7.out ?_)
  refine (C3.out _ (hlow ▸ M5'.out.keep) hl5 B5.out).mono ?_
  rintro e w6 ⟨F3, rfl, hb, hk⟩
  have B6 := Lib.hid (B5.out.trans (hb.mono B5.out.size))
  have K6 := Lib.hid (K5.out.later hb)
  have M6 := Lib.hid (M5'.out.up hb)
  have T6 := Lib.hid (T5.out.later hb)
  have R6 := Lib.hid (R5.out.later hb)
  have HK6 := Lib.hid hk
  clear hb hk B5 K5 M5' T5 R5 C3
  have S93 := Lib.hid (show (Tryz.prog.info? 29).map (·.size) = some (mdCells F3 n3).length by kernel_rfl)
  have S9A := Lib.hid (show (Tryz.prog.info? 29).map (·.size) = some (mdCells F3 n3).toArray.size by kernel_rfl)
  have O9 := Lib.hid (show (mdCells F3 n3).toArray.all (·.oneCell') = true by simp [mdCells, Value.oneCell'])
  have L93 := Lib.hid (show (mdCells F3 n3).toArray.size = 7 by rfl)
  have S8A := Lib.hid (show (Tryz.prog.info? 56).map (·.size) = some (rpCells r3).toArray.size by kernel_rfl)
  have O8 := Lib.hid (show (rpCells r3).toArray.all (·.oneCell') = true by simp [rpCells, Value.oneCell'])
  have V8 := Lib.hid (show RpV r3 = .agg (rpCells r3).toArray from rfl)
  rw [MV.out F3, V8.out]
  obtain ⟨hs3, hhs⟩ : ∃ hs : List Value, hs = mdCells F3 n3 := ⟨_, rfl⟩
  rw [← hhs]
  rw [← hhs] at S93 S9A O9 L93
  have HHS3 := Lib.hid hhs
  clear hhs V8
  have hrow := two_rows T6.out R6.out (by omega) hs3.toArray (rpCells r3).toArray
  go_upto_region 16 with (first | refine wpList_store_row rfl 29 (.tmp 9) (.tmp 111) rfl b9 hs3.toArray rfl rfl 29 _ T6.out S9A.out (L92.out.trans L93.out.symm) O9.out ?_ | refine wpList_store_row rfl 56 (.tmp 10) (.tmp 112) rfl (b9 + 1) (rpCells r3).toArray rfl rfl 56 _ (two_rows T6.out R6.out (by omega) _ #[]).1 S8A.out rfl O8.out ?_)
  have hwb9 : w.heap.size ≤ b9 := by omega
  have hne9q : q ≠ b9 := by omega
  have hne10q : q ≠ b9 + 1 := by omega
  refine at_world (fun X => Below w.heap.size w X ∧ BoxN X q 29 ms.toArray ∧ NewMem w2 X F g h (enS 2 ow 0 se ep) ∧ MdKeep lo X F3 n3 ∧ BoxN X b9 29 hs3.toArray ∧ BoxN X (b9 + 1) 56 (rpCells r3).toArray)
    ⟨(B6.out.grown hrow.2.1 B6.out.size (fun k hk => by injection hk with hk; omega)).grown hrow.2.2.1 (Nat.le_trans B6.out.size hrow.2.1.size) (fun k hk => by injection hk with hk; omega), (K6.out.kept hrow.2.1 (fun e => hne9q (by injection e))).kept hrow.2.2.1 (fun e => hne10q (by injection e)), (M6.out.box hrow.2.1 (Tag.of_box T6.out) (by omega) (by decide) (by decide) (by decide)).box hrow.2.2.1 (Tag.of_box hrow.1) (by omega) (by decide) (by decide) (by decide),
      (HK6.out.up (Loose.grown hrow.2.1 (Tag.of_box T6.out) (by omega) (by decide) (by decide) (by decide))).up (Loose.grown hrow.2.2.1 (Tag.of_box hrow.1) (by omega) (by decide) (by decide) (by decide)), hrow.2.2.2.1, hrow.2.2.2.2⟩ fun x3 hX => ?_
  have BX3 := Lib.hid hX.1
  have HQ3 := Lib.hid hX.2.1
  have HM3 := Lib.hid hX.2.2.1
  have HK3 := Lib.hid hX.2.2.2.1
  have HS3 := Lib.hid hX.2.2.2.2.1
  have HR3 := Lib.hid hX.2.2.2.2.2
  clear hX hrow B6 K6 M6 HK6 T6 R6
  have u0 := HR3.out.cell 0 (.int .i64 r3.err) rfl
  have zr := HR3.out.lt
  go_cut [2] from 114 to 136 (fun v W => v = .bool true ∧ Below x3.heap.size x3 W)
  case first => as_aux_lemma =>
    rcases N3.out.2 with ⟨herr, hmax, hst⟩ | ⟨herr, hmax⟩
    · have herr : r3.err = 17 := herr
      rw [herr] at u0
      have t1 : (ep == (18446744073709551615 : Int)) = true := by simpa using hmax
      have CS := Lib.hid (sameMd_any (HM3.out.keep.isMd) (hst ▸ HK3.out.isMd : IsMd x3 F3 (enS 2 ow 0 se ep)))
      rw [MV.out F, HMC.out, MV.out F3] at CS
      have CS := Lib.hid (show Calls Tryz.prog 27 #[.agg ms.toArray, .agg hs3.toArray] x3 fun e w' => e = .returned (.bool true) ∧ Below x3.heap.size x3 w' from by
        have h := CS.out
        rw [HHS3.out, show n3 = enS 2 ow 0 se ep from hst]
        exact h)
      clear hmax hst herr
      go_wp2_with (first | refine wpList_load_midg rfl 29 (.tmp 7) rfl q 0 rfl ms _ HQ3.out.range2 Tryz.underlying29 rfl S7.out ?_ | refine wpList_load_midg rfl 29 (.tmp 9) rfl b9 0 rfl hs3 _ HS3.out.range2 Tryz.underlying29 rfl S93.out ?_)
      refine CS.out.mono ?_
      rintro e y ⟨rfl, hb⟩
      go_wp2_with fail
      refine (shown_any _ (HU.out.up (BX3.out.trans (hb.mono BX3.out.size)) HU.out.1)).mono ?_
      rintro e y2 ⟨rfl, hb2⟩
      go_wp2_with fail
      go_meet
      exact ⟨rfl, hb.trans (hb2.mono hb.size)⟩
    · have herr : r3.err = 0 := herr
      rw [herr] at u0
      have t1 : (ep == (18446744073709551615 : Int)) = false := by simpa using hmax
      clear hmax herr
      go_wp2_with fail
      refine (shown_any _ (HU.out.up BX3.out HU.out.1)).mono ?_
      rintro e y2 ⟨rfl, hb2⟩
      go_wp2_with fail
      go_meet
      exact ⟨rfl, hb2⟩
  case rest =>
  obtain ⟨rfl, hb⟩ := hcut
  have BC3 := Lib.hid (BX3.out.trans (hb.mono BX3.out.size))
  have QC3 := Lib.hid (HQ3.out.later hb)
  have MC3 := Lib.hid (HM3.out.up hb)
  have SC3 := Lib.hid (HS3.out.later hb)
  have RC3 := Lib.hid (HR3.out.later hb)
  clear hb u0 zr HQ3 HM3 HS3 HR3 BX3 HK3
  go_wp2_with fail
  go_ret
  exact ⟨rfl, BC3.out⟩
end Go.Proofs.YtinbjfkkpcpokaaGreatDoor
