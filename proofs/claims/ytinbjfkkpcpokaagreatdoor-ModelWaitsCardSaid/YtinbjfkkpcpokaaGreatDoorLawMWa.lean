/-
  Walk of the law ModelWaits. Conditions: the pinned table lies where it was laid.
-/
import Derived.Test.YtinbjfkkpcpokaaGreatDoorLmG
namespace Go.Proofs.YtinbjfkkpcpokaaGreatDoor
open Go.RowKit

set_option maxRecDepth 20000 in
set_option maxHeartbeats 16000000 in
theorem lawWaits_any {w : World} {V : Option Addr} {vc : Nat} {x : Ve} (hv : Sl secR w (.slice V x.secs.length vc) x.secs) (hb1 : Bd x.shards) (hb2 : Bd x.ttl) (hb3 : Bd x.session) {A : Option Addr} {c : Nat} {ops : List MOp} (ho : Sl opR w (.slice A ops.length c) ops) (hu : UsesAt w) :
    Calls Tryz.prog 10 #[.agg #[.int .i64 x.shards, .int .i64 x.ttl, .int .i64 x.session, .slice V x.secs.length vc], .slice A ops.length c] w fun e w' => e = .returned (.bool true) ∧ Below w.heap.size w w' := by
  have hcap := ho.cap
  have HO := Lib.hid ho
  have HU := Lib.hid hu
  have HV := Lib.hid hv
  have CW := Lib.hid (fun W (hb : Below w.heap.size w W) => wide_any (hv.up hb))
  have CN := Lib.hid (fun W (hb : Below w.heap.size w W) => new_any (hv.up hb) hb1 hb2 hb3)
  have HOK := Lib.hid (@newM_ok x)
  have HVE := Lib.hid (@newM_ve x)
  have HBT := Lib.hid hb2
  clear hv ho hu
  unfold NewPost at CN
  generalize newM x = M at CN HOK HVE
  obtain ⟨s, E⟩ := M
  go_enter Tryz.func10, Tryz.ntmps10
  go_upto_region 1 with fail
  refine at_world (fun X => Below w.heap.size w X ∧ BoxN X w.heap.size 25 #[.int .i64 x.shards, .int .i64 x.ttl, .int .i64 x.session, .slice V x.secs.length vc]) ⟨ba _ _, BoxN.new _ _ _⟩ fun w0 hw0 => ?_
  have B0 := Lib.hid hw0.1
  have K0 := Lib.hid hw0.2
  clear hw0
  have a0 := K0.out.cell 0 _ rfl
  have a1 := K0.out.cell 1 _ rfl
  have a2 := K0.out.cell 2 _ rfl
  have a3 := K0.out.cell 3 _ rfl
  have z0 := K0.out.lt
  go_wp2_with fail
  refine (CW.out _ B0.out).mono ?_
  rintro e w1 ⟨b, rfl, hb⟩
  have B1 := Lib.hid (B0.out.trans (hb.mono B0.out.size))
  have K1 := Lib.hid (K0.out.later hb)
  clear hb a0 a1 a2 a3 z0 B0 K0 CW
  have a0 := K1.out.cell 0 _ rfl
  have a1 := K1.out.cell 1 _ rfl
  have a2 := K1.out.cell 2 _ rfl
  have a3 := K1.out.cell 3 _ rfl
  have z0 := K1.out.lt
  cases b
  case true =>
    go_wp2_with fail
    refine (shown_any _ (HU.out.up B1.out HU.out.1)).mono ?_
    rintro e w9 ⟨rfl, hb9⟩
    go_wp2_with fail
    go_ret
    exact ⟨rfl, B1.out.trans (hb9.mono B1.out.size)⟩
  by_cases h40 : 30 < ops.length
  · have t40 : decide ((30 : Int) < (ops.length : Int)) = true := decide_eq_true (by omega)
    go_wp2_with fail
    refine (shown_any _ (HU.out.up B1.out HU.out.1)).mono ?_
    rintro e w9 ⟨rfl, hb9⟩
    go_wp2_with fail
    go_ret
    exact ⟨rfl, B1.out.trans (hb9.mono B1.out.size)⟩
  have t40 : decide ((30 : Int) < (ops.length : Int)) = false := decide_eq_false (by omega)
  go_wp2_with fail
  refine (CN.out _ B1.out).mono ?_
  rintro e w2 ⟨F, rfl, hb, hI⟩
  have B2 := Lib.hid (B1.out.trans (hb.mono B1.out.size))
  have HI2 := Lib.hid hI
  have KV2 := Lib.hid (K1.out.later hb)
  clear hb hI a0 a1 a2 a3 z0 CN K1
  have S7A := Lib.hid (show (Tryz.prog.info? 29).map (·.size) = some (mdCells F s).toArray.size by kernel_rfl)
  have O7 := Lib.hid (show (mdCells F s).toArray.all (·.oneCell') = true by simp [mdCells, Value.oneCell'])
  have L7 := Lib.hid (show (mdCells F s).toArray.size = 7 by rfl)
  have MV := Lib.hid (show mdV F s = .agg (mdCells F s).toArray from rfl)
  simp only
  rw [MV.out]
  go_upto_region 4 with (refine wpList_store_row rfl 29 (.tmp 5) (.tmp 31) rfl w2.heap.size (mdCells F s).toArray rfl rfl 29 _ (BoxN.new _ _ _) S7A.out L7.out.symm O7.out ?_)
  obtain ⟨q, hq⟩ : ∃ q, w2.heap.size = q := ⟨_, rfl⟩
  rw [hq]
  have hbn : BoxN (w2.alloc (.cells #[.int .i64 0, .int .i64 0, .int .i64 0, .slice none 0 0, .int .i64 0, .slice none 0 0, .slice none 0 0] 29)) q 29 #[.int .i64 0, .int .i64 0, .int .i64 0, .slice none 0 0, .int .i64 0, .slice none 0 0, .slice none 0 0] := hq ▸ BoxN.new w2 29 #[.int .i64 0, .int .i64 0, .int .i64 0, .slice none 0 0, .int .i64 0, .slice none 0 0, .slice none 0 0]
  have hrow := grownBy_setRow hbn (mdCells F s).toArray
  refine at_world (fun X => Below w2.heap.size w2 X ∧ BoxN X q 29 (mdCells F s).toArray) ⟨(ba w2 (.cells #[.int .i64 0, .int .i64 0, .int .i64 0, .slice none 0 0, .int .i64 0, .slice none 0 0, .slice none 0 0] 29)).grown hrow.1 (by simp) (fun k hk => by injection hk with hk; omega), hrow.2⟩ fun w3 hw3 => ?_
  have B3 := Lib.hid (B2.out.trans (hw3.1.mono B2.out.size))
  have HK3 := Lib.hid (MdKeep.first HI2.out hw3.1)
  have K3 := Lib.hid hw3.2
  have KV3 := Lib.hid (KV2.out.later hw3.1)
  have hlq : w2.heap.size ≤ q := by omega
  have hwq : w.heap.size ≤ q := by have := B2.out.size; omega
  have hvq : w.heap.size < q := by have := KV2.out.lt; omega
  obtain ⟨lo, hlow⟩ : ∃ lo, w2.heap.size = lo := ⟨_, rfl⟩
  rw [hlow] at HK3 hlq
  have hvl : w.heap.size < lo := by have := KV2.out.lt; omega
  clear hbn hrow hw3 HI2 S7A O7 L7 MV hq B2 hlow KV2
  go_wp2_with fail
  go_loopw [7] (fun i wr => ∃ (k : Nat) (Fk : MFrm), k ≤ ops.length ∧ i = .int .i64 (k : Int) ∧ Hid (Below w.heap.size w wr) ∧ Hid (BoxN wr q 29 (mdCells Fk (stAt s ops k)).toArray) ∧ Hid (MdKeep lo wr Fk (stAt s ops k)) ∧ Hid (BoxN wr w.heap.size 25 #[.int .i64 x.shards, .int .i64 x.ttl, .int .i64 x.session, .slice V x.secs.length vc]) ∧ Hid (E = 0 → Bd (stAt s ops k).now)) (fun i _ => ops.length - (intOf i).toNat)
  case atStart => exact ⟨0, F, by omega, rfl, B3, K3, HK3, KV3, Lib.hid (fun he => by rw [stAt_zero, (HVE.out he).2]; simp [Bd])⟩
  case round =>
    obtain ⟨k, Fk, hk, rfl, HB, HS, HK, KV, HNB⟩ := hrel
    rename World => wq
    have hloW : lo ≤ wq.heap.size := by have := HS.out.lt; omega
    by_cases hlt : k < ops.length
    case neg =>
      obtain rfl : k = ops.length := by omega
      have t0 : decide ((ops.length : Int) < (ops.length : Int)) = false := by simp
      go_wp2_with fail
      refine (shown_any _ (HU.out.up HB.out HU.out.1)).mono ?_
      rintro e w9 ⟨rfl, hb9⟩
      go_wp2_with fail
      go_ret
      exact ⟨rfl, HB.out.trans (hb9.mono HB.out.size)⟩
    have t0 : decide ((k : Int) < (ops.length : Int)) = true := decide_eq_true (by omega)
    by_cases hE : E = 0
    case neg =>
      have t1 : (E == 0) = false := by simpa using hE
      go_wp2_with fail
      refine (shown_any _ (HU.out.up HB.out HU.out.1)).mono ?_
      rintro e w9 ⟨rfl, hb9⟩
      go_wp2_with fail
      go_ret
      exact ⟨rfl, HB.out.trans (hb9.mono HB.out.size)⟩
    have OK := Lib.hid (HOK.out hE)
    have HX := Lib.hid (show (stAt s ops k).ve = x from (stAt_ve s ops k hk).trans (HVE.out hE).1)
    have HBN := Lib.hid (HNB.out hE)
    subst hE
    have OKk := Lib.hid (show MdOk (stAt s ops k) from runTo_ok OK.out _)
    have HNX := Lib.hid (stAt_succ s hlt)
    have hk0 : (0 : Int) ≤ (k : Int) := by omega
    have hk1 : (k : Int) < (ops.length : Int) := by omega
    obtain ⟨bl, off, os, rfl, hbl, ⟨hos, hoo⟩, hat⟩ := (HO.out.up HB.out).at_ hlt
    have HAT := Lib.hid (show wq.rangeAt bl (off + k * 12) os from hat)
    have HOO := Lib.hid hoo
    clear hat hoo HNB
    have HDK := Lib.hid (doM_keeps (stAt s ops k) ops[k])
    have HDF := Lib.hid (do_freed (op := ops[k]) OKk.out HBN.out)
    have HLN := Lib.hid (LaterM.do_ (stAt s ops k) ops[k])
    have HDL := Lib.hid (do_lists (s := stAt s ops k) (op := ops[k]))
    have HVN := Lib.hid ((doM_ve (stAt s ops k) ops[k]).trans HX.out)
    have HNN := Lib.hid (doM_now (stAt s ops k) ops[k] HBN.out HOO.out)
    have CD := Lib.hid (fun W (hb : Below wq.heap.size wq W) => mDo_any lo Fk (stAt s ops k) ops[k] W (HK.out.up (Loose.of hb)) (Nat.le_trans hloW hb.size) (md_small OKk.out) HOO.out (HU.out.up (HB.out.trans (hb.mono HB.out.size)) HU.out.1))
    unfold MDoPost at CD
    rw [mdoM_ok OKk.out, ← hos] at CD
    have OKn := Lib.hid (OKk.out.do_ ops[k])
    have S2 := Lib.hid (show (Tryz.prog.info? 60).map (·.size) = some os.length by rw [hos]; kernel_rfl)
    have S2A := Lib.hid (show (Tryz.prog.info? 60).map (·.size) = some os.toArray.size by rw [hos]; kernel_rfl)
    have L2 := Lib.hid (show os.toArray.size = 12 by rw [hos]; rfl)
    have O2 := Lib.hid (show os.toArray.all (·.oneCell') = true by rw [hos]; simp [opCells, Value.oneCell'])
    have hoo := HOO.out
    generalize hop : ops[k] = op at CD HDK HNX OKn hos HDF HDL HVN HNN hoo HLN
    generalize doM (stAt s ops k) op = N at CD HDK HNX OKn HDF HDL HVN HNN HLN
    obtain ⟨s', r, f⟩ := N
    simp only at CD HDK HNX OKn HDF HDL HVN HNN HLN
    have HNS := Lib.hid (show stAt s ops (k + 1) = s' from HNX.out)
    generalize stAt s ops k = sk at HS HK OKk HDK CD HBN HX HDF HDL HLN
    have HOP := Lib.hid hoo
    have MVk := Lib.hid (show mdV Fk sk = .agg (mdCells Fk sk).toArray from rfl)
    have S7 := Lib.hid (show (Tryz.prog.info? 29).map (·.size) = some (mdCells Fk sk).length by kernel_rfl)
    rw [MVk.out] at CD
    obtain ⟨ms, hms⟩ : ∃ ms : List Value, ms = mdCells Fk sk := ⟨_, rfl⟩
    have LM := Lib.hid (show ms.toArray.size = 7 by rw [hms]; rfl)
    rw [← hms] at CD S7 HS
    have HMS := Lib.hid hms
    have HOS := Lib.hid hos
    clear hms hos hop HOO HNX hoo
    go_upto_region 8 with (first | refine wpList_load_mid rfl 60 (.tmp 45) rfl bl (off + k * 12) rfl os _ HAT.out Tryz.underlying60 rfl S2.out ?_ | refine wpList_store_row rfl 60 (.tmp 8) (.tmp 46) rfl wq.heap.size os.toArray rfl rfl 60 _ (BoxN.new _ _ _) S2A.out L2.out.symm O2.out ?_)
    have hbn : BoxN (wq.alloc (.cells #[.int .i64 0, .int .u32 0, .int .i64 0, .int .i64 0, .int .i64 0, .int .i64 0, .int .u32 0, .int .u32 0, .int .u32 0, .int .u64 0, .int .u64 0, .int .i64 0] 60)) wq.heap.size 60 #[.int .i64 0, .int .u32 0, .int .i64 0, .int .i64 0, .int .i64 0, .int .i64 0, .int .u32 0, .int .u32 0, .int .u32 0, .int .u64 0, .int .u64 0, .int .i64 0] := BoxN.new wq 60 #[.int .i64 0, .int .u32 0, .int .i64 0, .int .i64 0, .int .i64 0, .int .i64 0, .int .u32 0, .int .u32 0, .int .u32 0, .int .u64 0, .int .u64 0, .int .i64 0]
    have hrow := grownBy_setRow hbn os.toArray
    refine at_world (fun X => Below wq.heap.size wq X ∧ BoxN X wq.heap.size 60 os.toArray) ⟨(ba wq (.cells #[.int .i64 0, .int .u32 0, .int .i64 0, .int .i64 0, .int .i64 0, .int .i64 0, .int .u32 0, .int .u32 0, .int .u32 0, .int .u64 0, .int .u64 0, .int .i64 0] 60)).grown hrow.1 (by simp) (fun k hk => by injection hk with hk; omega), hrow.2⟩ fun x1 hx => ?_
    obtain ⟨b8, hb8⟩ : ∃ b, wq.heap.size = b := ⟨_, rfl⟩
    have B1 := Lib.hid (HB.out.trans (hx.1.mono HB.out.size))
    have D1 := Lib.hid hx.1
    have HS1 := Lib.hid (HS.out.later hx.1)
    have KV1 := Lib.hid (KV.out.later hx.1)
    have HK1 := Lib.hid (HK.out.up (Loose.of hx.1))
    have H81 := Lib.hid (show BoxN x1 b8 60 os.toArray from hb8 ▸ hx.2)
    rw [hb8]
    clear hbn hrow hx HS KV HK HAT S2A L2 O2
    dsimp only [Act.put]
    go_cut [9, 10, 11] from 33 to 210 (fun v9 v10 v11 W => ∃ b9 F', v9 = .pointer (some ⟨b9, 0, none⟩) ∧ v10 = .pointer (some ⟨b9 + 1, 0, none⟩) ∧ v11 = .int .i64 f ∧ Below x1.heap.size x1 W ∧ BoxN W b9 29 (mdCells F' s').toArray ∧ BoxN W (b9 + 1) 56 (rpCells r).toArray ∧ MdKeep lo W F' s')
    case first => as_aux_lemma =>
      go_wp2_with (first | refine wpList_load_mid rfl 29 (.tmp 5) rfl q 0 rfl ms _ HS1.out.range2 Tryz.underlying29 rfl S7.out ?_ | refine wpList_load_mid rfl 60 (.tmp 8) rfl b8 0 rfl os _ H81.out.range2 Tryz.underlying60 rfl S2.out ?_)
      refine (CD.out _ D1.out).mono ?_
      rintro e x2 ⟨F', rfl, hb, hk9⟩
      have HN2 := Lib.hid hk9
      have HB2 := Lib.hid hb
      clear hb hk9 B1 HS1 KV1 HK1 H81 CD D1
      have S9A := Lib.hid (show (Tryz.prog.info? 29).map (·.size) = some (mdCells F' s').toArray.size by kernel_rfl)
      have O9 := Lib.hid (show (mdCells F' s').toArray.all (·.oneCell') = true by simp [mdCells, Value.oneCell'])
      have L9 := Lib.hid (show (mdCells F' s').toArray.size = 7 by rfl)
      have S8A := Lib.hid (show (Tryz.prog.info? 56).map (·.size) = some (rpCells r).toArray.size by kernel_rfl)
      have O8 := Lib.hid (show (rpCells r).toArray.all (·.oneCell') = true by simp [rpCells, Value.oneCell'])
      have L8 := Lib.hid (show (rpCells r).toArray.size = 9 by rfl)
      have V8 := Lib.hid (show RpV r = .agg (rpCells r).toArray from rfl)
      have V9 := Lib.hid (show mdV F' s' = .agg (mdCells F' s').toArray from rfl)
      rw [V9.out, V8.out]
      obtain ⟨hs, hhs⟩ : ∃ hs : List Value, hs = mdCells F' s' := ⟨_, rfl⟩
      obtain ⟨rs, hrs⟩ : ∃ rs : List Value, rs = rpCells r := ⟨_, rfl⟩
      rw [← hhs, ← hrs]
      rw [← hhs] at S9A O9 L9
      rw [← hrs] at S8A O8 L8
      have HHS := Lib.hid hhs
      have HRS := Lib.hid hrs
      clear hhs hrs V8 V9
      go_wp2_with (first | refine wpList_store_row rfl 29 (.tmp 9) (.tmp 51) rfl x2.heap.size hs.toArray rfl rfl 29 _ (two_boxes rfl _ _ _ _).2.1 S9A.out L9.out.symm O9.out ?_ | refine wpList_store_row rfl 56 (.tmp 10) (.tmp 52) rfl (x2.heap.size + 1) rs.toArray rfl rfl 56 _ (two_rows (two_boxes rfl _ _ _ _).2.1 (two_boxes rfl _ _ _ _).2.2 (by omega) _ #[]).1 S8A.out L8.out.symm O8.out ?_)
      have htb := two_boxes (W := x2) rfl #[.int .i64 0, .int .i64 0, .int .i64 0, .slice none 0 0, .int .i64 0, .slice none 0 0, .slice none 0 0] #[.int .i64 0, .int .i64 0, .int .i64 0, .int .i64 0, .int .u32 0, .int .u32 0, .int .u64 0, .int .u64 0, .int .i64 0] 29 56
      have hrow := two_rows htb.2.1 htb.2.2 (by omega) hs.toArray rs.toArray
      have hbw : Below x2.heap.size x2 _ := (htb.1.grown hrow.2.1 htb.1.size (fun k hk => by injection hk with hk; omega)).grown hrow.2.2.1 (Nat.le_trans htb.1.size hrow.2.1.size) (fun k hk => by injection hk with hk; omega)
      refine at_world (fun X => Below x2.heap.size x2 X ∧ BoxN X x2.heap.size 29 hs.toArray ∧ BoxN X (x2.heap.size + 1) 56 rs.toArray) ⟨hbw, hrow.2.2.2.1, hrow.2.2.2.2⟩ fun y hX => ?_
      clear htb hrow hbw
      go_meet
      exact ⟨_, F', rfl, rfl, rfl, HB2.out.trans (hX.1.mono HB2.out.size), by rw [← HHS.out]; exact hX.2.1, by rw [← HRS.out]; exact hX.2.2, HN2.out.up (Loose.of hX.1)⟩
    case rest =>
    obtain ⟨b9, F', rfl, rfl, rfl, hb, h9, h10, hkn⟩ := hcut
    rename World => y
    have BY := Lib.hid (B1.out.trans (hb.mono B1.out.size))
    have HSy := Lib.hid (HS1.out.later hb)
    have KVy := Lib.hid (KV1.out.later hb)
    have HKy := Lib.hid (HK1.out.up (Loose.of hb))
    have H8y := Lib.hid (H81.out.later hb)
    have HNy := Lib.hid hkn
    have H9y := Lib.hid h9
    have H10y := Lib.hid h10
    clear hb h9 h10 hkn B1 HS1 KV1 HK1 H81 CD D1
    have S9 := Lib.hid (show (Tryz.prog.info? 29).map (·.size) = some (mdCells F' s').length by kernel_rfl)
    have S9A := Lib.hid (show (Tryz.prog.info? 29).map (·.size) = some (mdCells F' s').toArray.size by kernel_rfl)
    have O9 := Lib.hid (show (mdCells F' s').toArray.all (·.oneCell') = true by simp [mdCells, Value.oneCell'])
    have L9 := Lib.hid (show (mdCells F' s').toArray.size = 7 by rfl)
    have u0 := H10y.out.cell 0 (.int .i64 r.err) rfl
    have zr := H10y.out.lt
    by_cases hf : f = 0
    case neg => as_aux_lemma =>
      have t1 : (f != 0) = true := by simpa using hf
      have he := Lib.hid (HDK.out (.inl hf))
      clear HDF HDL HDK hf
      go_wp2_with fail
      exact ⟨⟨k + 1, Fk, by omega, by go_num, BY, Lib.hid (by rw [HNS.out, he.out, ← HMS.out]; exact HSy.out), Lib.hid (by rw [HNS.out, he.out]; exact HKy.out), KVy, Lib.hid (fun _ => by rw [HNS.out]; exact HNN.out)⟩, by simp [intOf]; omega⟩
    by_cases her : r.err = 0
    case neg => as_aux_lemma =>
      have t1 : (f != 0) = false := by simpa using hf
      have t2 : (r.err != 0) = true := by simpa using her
      have he := Lib.hid (HDK.out (.inr (.inl her)))
      clear HDF HDL HDK hf her
      go_wp2_with fail
      exact ⟨⟨k + 1, Fk, by omega, by go_num, BY, Lib.hid (by rw [HNS.out, he.out, ← HMS.out]; exact HSy.out), Lib.hid (by rw [HNS.out, he.out]; exact HKy.out), KVy, Lib.hid (fun _ => by rw [HNS.out]; exact HNN.out)⟩, by simp [intOf]; omega⟩
    have HDF2 := Lib.hid (HDF.out hf her)
    have HDL2 := Lib.hid (HDL.out hf her)
    subst hf
    rw [her] at u0
    clear her HDF HDL HDK
    have m6 := (show BoxN y q 29 (mdCells Fk sk).toArray from HMS.out ▸ HSy.out).cell 6 (.slice Fk.Q sk.qs.length Fk.qc) rfl
    have m1 := (show BoxN y q 29 (mdCells Fk sk).toArray from HMS.out ▸ HSy.out).cell 4 (.int .i64 sk.now) rfl
    have zq := HSy.out.lt
    have n5 := H9y.out.cell 5 (.slice F'.A s'.seats.length F'.ac) rfl
    have n6 := H9y.out.cell 6 (.slice F'.Q s'.qs.length F'.qc) rfl
    have z9 := H9y.out.lt
    have p0 := (show BoxN y b8 60 (opCells op).toArray from HOS.out ▸ H8y.out).cell 0 (.int .i64 op.kind) rfl
    have p3 := (show BoxN y b8 60 (opCells op).toArray from HOS.out ▸ H8y.out).cell 3 (.int .i64 op.seat) rfl
    have p4 := (show BoxN y b8 60 (opCells op).toArray from HOS.out ▸ H8y.out).cell 4 (.int .i64 op.section_) rfl
    have p7 := (show BoxN y b8 60 (opCells op).toArray from HOS.out ▸ H8y.out).cell 7 (.int .u32 op.tk.seat) rfl
    have z8 := H8y.out.lt
    have v0 := KVy.out.cell 0 _ rfl
    have v1 := KVy.out.cell 1 _ rfl
    have v2 := KVy.out.cell 2 _ rfl
    have v3 := KVy.out.cell 3 _ rfl
    have zv := KVy.out.lt
    go_upto_region 10 with fail
    clear u0 zr
    go_cut [62] from 33 to 210 (fun v W => v = .bool (freedB op) ∧ Below y.heap.size y W)
    case first => as_aux_lemma =>
      go_wp2_with (refine wpList_load_mid rfl 60 (.tmp 8) rfl b8 0 rfl os _ H8y.out.range2 Tryz.underlying60 rfl S2.out ?_)
      rw [HOS.out]
      refine (lawFreed_any op _).mono ?_
      rintro e y2 ⟨rfl, hb⟩
      go_wp2_with fail
      go_meet
      exact ⟨rfl, hb⟩
    case rest =>
    obtain ⟨rfl, hb⟩ := hcut
    rename World => z
    have BZ := Lib.hid (BY.out.trans (hb.mono BY.out.size))
    have HSz := Lib.hid (HSy.out.later hb)
    have KVz := Lib.hid (KVy.out.later hb)
    have HKz := Lib.hid (HKy.out.up (Loose.of hb))
    have H8z := Lib.hid (H8y.out.later hb)
    have HNz := Lib.hid (HNy.out.up (Loose.of hb))
    have H9z := Lib.hid (H9y.out.later hb)
    clear BY HSy KVy HKy H8y HNy H9y
    clear hb
    clear m6 m1 zq n5 n6 z9 p0 p3 p4 p7 z8 v0 v1 v2 v3 zv
    go_upto_if 62 with fail
    go_cut [12, 13, 14] from 33 to 210 (fun v12 v13 v14 W => Below z.heap.size z W)
    case first => as_aux_lemma =>
      cases hfr : freedB op
      case false =>
        go_wp2_with fail
        go_meet
        exact Below.refl _ _
      obtain ⟨i, hi1, hi2, hF⟩ := HDF2.out (freedB_iff.1 hfr)
      have hlen : s'.seats.length = sk.seats.length := HLN.out.1
      have hi2' : i < s'.seats.length := by omega
      have HF := Lib.hid hF
      have HZZ := Lib.hid (Below.refl z.heap.size z)
      clear hF hfr HDF2
      have m6 := (show BoxN z q 29 (mdCells Fk sk).toArray from HMS.out ▸ HSz.out).cell 6 (.slice Fk.Q sk.qs.length Fk.qc) rfl
      have m1 := (show BoxN z q 29 (mdCells Fk sk).toArray from HMS.out ▸ HSz.out).cell 4 (.int .i64 sk.now) rfl
      have zq := HSz.out.lt
      have n5 := H9z.out.cell 5 (.slice F'.A s'.seats.length F'.ac) rfl
      have n6 := H9z.out.cell 6 (.slice F'.Q s'.qs.length F'.qc) rfl
      have z9 := H9z.out.lt
      have p0 := (show BoxN z b8 60 (opCells op).toArray from HOS.out ▸ H8z.out).cell 0 (.int .i64 op.kind) rfl
      have p3 := (show BoxN z b8 60 (opCells op).toArray from HOS.out ▸ H8z.out).cell 3 (.int .i64 op.seat) rfl
      have p4 := (show BoxN z b8 60 (opCells op).toArray from HOS.out ▸ H8z.out).cell 4 (.int .i64 op.section_) rfl
      have p7 := (show BoxN z b8 60 (opCells op).toArray from HOS.out ▸ H8z.out).cell 7 (.int .u32 op.tk.seat) rfl
      have z8 := H8z.out.lt
      have v0 := KVz.out.cell 0 _ rfl
      have v1 := KVz.out.cell 1 _ rfl
      have v2 := KVz.out.cell 2 _ rfl
      have v3 := KVz.out.cell 3 _ rfl
      have zv := KVz.out.lt
      go_upto_if 67 with fail
      go_cut [12] from 33 to 210 (fun v12 W => v12 = .int .i64 (i : Int) ∧ Below z.heap.size z W)
      case first =>
        by_cases h7 : op.kind = 7
        case pos =>
          have t7 : (op.kind == 7) = true := by simpa using h7
          have he : op.tk.seat = (i : Int) := by rw [← hi1]; simp [freedSeat, h7]
          rw [he] at p7
          have hW : IntKind.i64.wrap (i : Int) = (i : Int) := IntWalk.i64_in _ (by have := OKn.out.len; omega)
          clear h7 he hi1
          go_wp2_with fail
          go_meet
          exact ⟨by first | rfl | rw [hW], Below.refl _ _⟩
        case neg =>
          have t7 : (op.kind == 7) = false := by simpa using h7
          have he := Lib.hid (show op.seat = (i : Int) by rw [← hi1]; simp [freedSeat, h7])
          clear h7 hi1
          go_wp2_with fail
          go_meet
          exact ⟨by rw [he.out], Below.refl _ _⟩
      case rest =>
      obtain ⟨rfl, hb⟩ := hcut
      rename World => s
      have HZS := Lib.hid (HZZ.out.trans (hb.mono HZZ.out.size))
      have BS := Lib.hid (BZ.out.trans (hb.mono BZ.out.size))
      have HSs := Lib.hid (HSz.out.later hb)
      have KVs := Lib.hid (KVz.out.later hb)
      have HKs := Lib.hid (HKz.out.up (Loose.of hb))
      have H8s := Lib.hid (H8z.out.later hb)
      have HNs := Lib.hid (HNz.out.up (Loose.of hb))
      have H9s := Lib.hid (H9z.out.later hb)
      clear BZ HSz KVz HKz H8z HNz H9z
      clear hb
      clear m6 m1 zq n5 n6 z9 p0 p3 p4 p7 z8 v0 v1 v2 v3 zv
      have m6 := (show BoxN s q 29 (mdCells Fk sk).toArray from HMS.out ▸ HSs.out).cell 6 (.slice Fk.Q sk.qs.length Fk.qc) rfl
      have m1 := (show BoxN s q 29 (mdCells Fk sk).toArray from HMS.out ▸ HSs.out).cell 4 (.int .i64 sk.now) rfl
      have zq := HSs.out.lt
      have n5 := H9s.out.cell 5 (.slice F'.A s'.seats.length F'.ac) rfl
      have n6 := H9s.out.cell 6 (.slice F'.Q s'.qs.length F'.qc) rfl
      have z9 := H9s.out.lt
      have p0 := (show BoxN s b8 60 (opCells op).toArray from HOS.out ▸ H8s.out).cell 0 (.int .i64 op.kind) rfl
      have p3 := (show BoxN s b8 60 (opCells op).toArray from HOS.out ▸ H8s.out).cell 3 (.int .i64 op.seat) rfl
      have p4 := (show BoxN s b8 60 (opCells op).toArray from HOS.out ▸ H8s.out).cell 4 (.int .i64 op.section_) rfl
      have p7 := (show BoxN s b8 60 (opCells op).toArray from HOS.out ▸ H8s.out).cell 7 (.int .u32 op.tk.seat) rfl
      have z8 := H8s.out.lt
      have v0 := KVs.out.cell 0 _ rfl
      have v1 := KVs.out.cell 1 _ rfl
      have v2 := KVs.out.cell 2 _ rfl
      have v3 := KVs.out.cell 3 _ rfl
      have zv := KVs.out.lt
      have hsc := section_eq OKk.out hi2
      rw [HX.out] at hsc
      have hso := secs_ok (HX.out ▸ OKk.out.ve)
      have CS := Lib.hid (section_any (HV.out.up BS.out) (i : Int) ⟨by omega, by have := OKn.out.len; omega⟩ hso.1 hso.2)
      rw [hsc.1] at CS
      have hsq := hsc.2.1
      have hsqn : secOf sk i < s'.qs.length := by rw [OKn.out.qs, HVN.out]; exact hsc.2.2
      have HSC := Lib.hid hsc.1
      clear hsc hso
      go_wp2_with fail
      refine CS.out.mono ?_
      rintro e t ⟨rfl, hb⟩
      have HZT := Lib.hid (HZS.out.trans (hb.mono HZS.out.size))
      have BT := Lib.hid (BS.out.trans (hb.mono BS.out.size))
      have HSt := Lib.hid (HSs.out.later hb)
      have KVt := Lib.hid (KVs.out.later hb)
      have HKt := Lib.hid (HKs.out.up (Loose.of hb))
      have H8t := Lib.hid (H8s.out.later hb)
      have HNt := Lib.hid (HNs.out.up (Loose.of hb))
      have H9t := Lib.hid (H9s.out.later hb)
      clear BS HSs KVs HKs H8s HNs H9s
      clear hb CS
      clear m6 m1 zq n5 n6 z9 p0 p3 p4 p7 z8 v0 v1 v2 v3 zv
      have m6 := (show BoxN t q 29 (mdCells Fk sk).toArray from HMS.out ▸ HSt.out).cell 6 (.slice Fk.Q sk.qs.length Fk.qc) rfl
      have m1 := (show BoxN t q 29 (mdCells Fk sk).toArray from HMS.out ▸ HSt.out).cell 4 (.int .i64 sk.now) rfl
      have zq := HSt.out.lt
      have n5 := H9t.out.cell 5 (.slice F'.A s'.seats.length F'.ac) rfl
      have n6 := H9t.out.cell 6 (.slice F'.Q s'.qs.length F'.qc) rfl
      have z9 := H9t.out.lt
      have p0 := (show BoxN t b8 60 (opCells op).toArray from HOS.out ▸ H8t.out).cell 0 (.int .i64 op.kind) rfl
      have p3 := (show BoxN t b8 60 (opCells op).toArray from HOS.out ▸ H8t.out).cell 3 (.int .i64 op.seat) rfl
      have p4 := (show BoxN t b8 60 (opCells op).toArray from HOS.out ▸ H8t.out).cell 4 (.int .i64 op.section_) rfl
      have p7 := (show BoxN t b8 60 (opCells op).toArray from HOS.out ▸ H8t.out).cell 7 (.int .u32 op.tk.seat) rfl
      have z8 := H8t.out.lt
      have v0 := KVt.out.cell 0 _ rfl
      have v1 := KVt.out.cell 1 _ rfl
      have v2 := KVt.out.cell 2 _ rfl
      have v3 := KVt.out.cell 3 _ rfl
      have zv := KVt.out.lt
      have tS : decide ((s'.seats.length : Int) ≤ (i : Int)) = false := decide_eq_false (by omega)
      obtain ⟨bA, oA, hA, hbA, hrng, hxok⟩ := HNt.out.isMd.seatIn hi2'
      rw [hA] at n5
      have hi0 : (0 : Int) ≤ (i : Int) := by omega
      have hi3 : (i : Int) < (s'.seats.length : Int) := by omega
      obtain ⟨xs, hxs⟩ : ∃ xs : List Value, xs = sxCells (seatAt s' i) := ⟨_, rfl⟩
      rw [← hxs] at hrng
      have HXS := Lib.hid hxs
      have SXX := Lib.hid (show (Tryz.prog.info? 52).map (·.size) = some xs.length by rw [hxs]; kernel_rfl)
      have SXA := Lib.hid (show (Tryz.prog.info? 52).map (·.size) = some xs.toArray.size by rw [hxs]; kernel_rfl)
      have LX := Lib.hid (show xs.toArray.size = 5 by rw [hxs]; rfl)
      have OX := Lib.hid (show xs.toArray.all (·.oneCell') = true by rw [hxs]; simp [sxCells, Value.oneCell'])
      have HR := Lib.hid hrng
      clear hrng hxs hxok hA
      go_upto_region 18 with (first | refine wpList_load_mid rfl 52 (.tmp 83) rfl bA (oA + i * 5) rfl xs _ HR.out Tryz.underlying52 rfl SXX.out ?_ | refine wpList_store_row rfl 52 (.tmp 14) (.tmp 84) rfl t.heap.size xs.toArray rfl rfl 52 _ (BoxN.new _ _ _) SXA.out LX.out.symm OX.out ?_)
      have hbn : BoxN (t.alloc (.cells #[.int .i64 0, .int .u32 0, .int .i64 0, .int .u64 0, .int .u64 0] 52)) t.heap.size 52 #[.int .i64 0, .int .u32 0, .int .i64 0, .int .u64 0, .int .u64 0] := BoxN.new t 52 #[.int .i64 0, .int .u32 0, .int .i64 0, .int .u64 0, .int .u64 0]
      have hrow := grownBy_setRow hbn xs.toArray
      refine at_world (fun X => Below t.heap.size t X ∧ BoxN X t.heap.size 52 xs.toArray) ⟨(ba t (.cells #[.int .i64 0, .int .u32 0, .int .i64 0, .int .u64 0, .int .u64 0] 52)).grown hrow.1 (by simp) (fun k hk => by injection hk with hk; omega), hrow.2⟩ fun v hx => ?_
      obtain ⟨b14, hb14⟩ : ∃ b, t.heap.size = b := ⟨_, rfl⟩
      have hb := hx.1
      have H14 := Lib.hid (show BoxN v b14 52 (sxCells (seatAt s' i)).toArray from HXS.out ▸ hb14 ▸ hx.2)
      rw [hb14]
      have DV := Lib.hid (show Below z.heap.size z v from HZT.out.trans (hb.mono HZT.out.size))
      have BV := Lib.hid (BT.out.trans (hb.mono BT.out.size))
      have HSv := Lib.hid (HSt.out.later hb)
      have KVv := Lib.hid (KVt.out.later hb)
      have HKv := Lib.hid (HKt.out.up (Loose.of hb))
      have H8v := Lib.hid (H8t.out.later hb)
      have HNv := Lib.hid (HNt.out.up (Loose.of hb))
      have H9v := Lib.hid (H9t.out.later hb)
      clear BT HSt KVt HKt H8t HNt H9t
      clear hb hx hbn hrow hbA HR
      clear m6 m1 zq n5 n6 z9 p0 p3 p4 p7 z8 v0 v1 v2 v3 zv
      have m6 := (show BoxN v q 29 (mdCells Fk sk).toArray from HMS.out ▸ HSv.out).cell 6 (.slice Fk.Q sk.qs.length Fk.qc) rfl
      have m1 := (show BoxN v q 29 (mdCells Fk sk).toArray from HMS.out ▸ HSv.out).cell 4 (.int .i64 sk.now) rfl
      have zq := HSv.out.lt
      have n5 := H9v.out.cell 5 (.slice F'.A s'.seats.length F'.ac) rfl
      have n6 := H9v.out.cell 6 (.slice F'.Q s'.qs.length F'.qc) rfl
      have z9 := H9v.out.lt
      have p0 := (show BoxN v b8 60 (opCells op).toArray from HOS.out ▸ H8v.out).cell 0 (.int .i64 op.kind) rfl
      have p3 := (show BoxN v b8 60 (opCells op).toArray from HOS.out ▸ H8v.out).cell 3 (.int .i64 op.seat) rfl
      have p4 := (show BoxN v b8 60 (opCells op).toArray from HOS.out ▸ H8v.out).cell 4 (.int .i64 op.section_) rfl
      have p7 := (show BoxN v b8 60 (opCells op).toArray from HOS.out ▸ H8v.out).cell 7 (.int .u32 op.tk.seat) rfl
      have z8 := H8v.out.lt
      have v0 := KVv.out.cell 0 _ rfl
      have v1 := KVv.out.cell 1 _ rfl
      have v2 := KVv.out.cell 2 _ rfl
      have v3 := KVv.out.cell 3 _ rfl
      have zv := KVv.out.lt
      have y0 := H14.out.cell 0 (.int .i64 (seatAt s' i).state) rfl
      have y1 := H14.out.cell 1 (.int .u32 (seatAt s' i).owner) rfl
      have y2 := H14.out.cell 2 (.int .i64 (seatAt s' i).till) rfl
      have y14 := H14.out.lt
      obtain ⟨bQ, oQ, A0, c0, hQ, hbQ, hqc, hql⟩ := HKv.out.isMd.listIn hsq
      rw [hQ] at m6
      obtain ⟨bN, oN, A1, c1, hQn, hbN, hnc, hnl⟩ := HNv.out.isMd.listIn hsqn
      rw [hQn] at n6
      have hs0 : (0 : Int) ≤ (secOf sk i : Int) := by omega
      have hs1 : (secOf sk i : Int) < (sk.qs.length : Int) := by omega
      have hs2 : (secOf sk i : Int) < (s'.qs.length : Int) := by omega
      have hcq := hql.cap
      have hcn := hnl.cap
      have HQL := Lib.hid hql
      have HF2 := HF.out
      clear hQ hQn hql hnl HF
      dsimp only [Act.put]
      rcases HF2 with ⟨hL, hst⟩ | ⟨ow, l, hL, hst, how, htl, hln⟩
      case inl =>
        rw [hL] at hqc
        rw [hst] at y0
        simp only [List.length_nil] at hqc
        clear hL hst
        go_wp2_with fail
        go_meet
        exact DV.out
      case inr => as_aux_lemma =>
        rw [hL] at hqc hcq
        rw [hst] at y0
        rw [how] at y1
        rw [htl] at y2
        rw [hln] at hnc hcn
        obtain ⟨bq, oq, hA0, hbq, hqv, _⟩ := (hL ▸ HQL.out : Sl u32R v _ (ow :: l)).atU (k := 0) (by simp)
        have hub := until_bd OKk.out HBN.out (m := sk.ve.ttl) (by have := (checkV_ok OKk.out.ve).2.2.1; omega)
        have httl := congrArg Ve.ttl HX.out
        rw [httl] at hub y2
        have HVT := Lib.hid hub
        have HDM := Lib.hid (until_max OKk.out (m := x.ttl) (by have := (checkV_ok OKk.out.ve).2.2.1; rw [congrArg Ve.ttl HX.out] at this; omega))
        generalize hgD : untilM sk x.ttl = D at hub HVT y2 HDM
        clear hgD
        simp only [List.getElem_cons_zero, Nat.add_zero] at hqv
        simp only [List.length_cons] at hqc hcq
        rw [hA0] at hqc
        have tL : (((l.length + 1 : Nat) : Int) == 0) = false := by simp; omega
        have tL' : ((l.length : Int) + 1 == 0) = false := by simp; omega
        have hW2 : IntKind.i64.wrap (((l.length + 1 : Nat) : Int) - 1) = (l.length : Int) := by rw [show ((l.length + 1 : Nat) : Int) - 1 = (l.length : Int) by omega]; exact IntWalk.i64_in _ (by omega)
        have hW2' : IntKind.i64.wrap ((l.length : Int) + 1 - 1) = (l.length : Int) := by rw [show (l.length : Int) + 1 - 1 = (l.length : Int) by omega]; exact IntWalk.i64_in _ (by omega)
        have hW3 : IntKind.i64.wrap (l.length : Int) = (l.length : Int) := IntWalk.i64_in _ (by omega)
        have hl0 : (0 : Int) < ((l.length + 1 : Nat) : Int) := by omega
        have t3 : decide (D < sk.now) = false := decide_eq_false (by omega)
        clear hL hst how htl hln hA0 HQL httl hub
        go_upto_region 21 with fail
        rcases HVT.out with ⟨_, hD | ⟨hD, _⟩⟩
        · have hW : IntKind.i64.wrap (sk.now + x.ttl) = D := by rw [hD]; exact IntWalk.i64_in _ (by have h9 := (until_bd OKk.out HBN.out (m := x.ttl) (by have := (checkV_ok OKk.out.ve).2.2.1; rw [congrArg Ve.ttl HX.out] at this; omega)).1; have h8 := HDM.out; have := OKk.out.now; omega)
          clear hD HVT
          go_quiet (fail)
          go_wp2_with fail
          go_meet
          exact bdN DV.out _
        · have t5 : (D != (9223372036854775807 : Int)) = false := by simpa using hD
          obtain ⟨bb, hbb⟩ : ∃ bb, (D != IntKind.i64.wrap (sk.now + x.ttl)) = bb := ⟨_, rfl⟩
          clear HVT hD
          cases bb
          · go_quiet (fail)
            go_wp2_with fail
            go_meet
            exact bdN DV.out _
          · go_quiet (fail)
            go_wp2_with fail
            go_meet
            exact bdN DV.out _
    case rest =>
    have hb := hcut
    clear hcut
    rename World => p
    have BP := Lib.hid (BZ.out.trans (hb.mono BZ.out.size))
    have HSp := Lib.hid (HSz.out.later hb)
    have KVp := Lib.hid (KVz.out.later hb)
    have HKp := Lib.hid (HKz.out.up (Loose.of hb))
    have H8p := Lib.hid (H8z.out.later hb)
    have HNp := Lib.hid (HNz.out.up (Loose.of hb))
    have H9p := Lib.hid (H9z.out.later hb)
    clear BZ HSz KVz HKz H8z HNz H9z
    clear hb HDF2
    go_wp2_with fail
    have m6 := (show BoxN p q 29 (mdCells Fk sk).toArray from HMS.out ▸ HSp.out).cell 6 (.slice Fk.Q sk.qs.length Fk.qc) rfl
    have m1 := (show BoxN p q 29 (mdCells Fk sk).toArray from HMS.out ▸ HSp.out).cell 4 (.int .i64 sk.now) rfl
    have zq := HSp.out.lt
    have n5 := H9p.out.cell 5 (.slice F'.A s'.seats.length F'.ac) rfl
    have n6 := H9p.out.cell 6 (.slice F'.Q s'.qs.length F'.qc) rfl
    have z9 := H9p.out.lt
    have p0 := (show BoxN p b8 60 (opCells op).toArray from HOS.out ▸ H8p.out).cell 0 (.int .i64 op.kind) rfl
    have p3 := (show BoxN p b8 60 (opCells op).toArray from HOS.out ▸ H8p.out).cell 3 (.int .i64 op.seat) rfl
    have p4 := (show BoxN p b8 60 (opCells op).toArray from HOS.out ▸ H8p.out).cell 4 (.int .i64 op.section_) rfl
    have p7 := (show BoxN p b8 60 (opCells op).toArray from HOS.out ▸ H8p.out).cell 7 (.int .u32 op.tk.seat) rfl
    have z8 := H8p.out.lt
    have v0 := KVp.out.cell 0 _ rfl
    have v1 := KVp.out.cell 1 _ rfl
    have v2 := KVp.out.cell 2 _ rfl
    have v3 := KVp.out.cell 3 _ rfl
    have zv := KVp.out.lt
    go_loopw [15] (fun i wr => ∃ j : Nat, j ≤ sk.qs.length ∧ i = .int .i64 (j : Int) ∧ Hid (Below p.heap.size p wr)) (fun i _ => sk.qs.length - (intOf i).toNat)
    case atStart => exact ⟨0, by omega, rfl, Lib.hid (Below.refl _ _)⟩
    case round =>
      clear m6 m1 zq n5 n6 z9 p0 p3 p4 p7 z8 v0 v1 v2 v3 zv
      obtain ⟨j, hj, rfl, HP⟩ := hrel
      rename World => d
      have hb := HP.out
      have BD := Lib.hid (BP.out.trans (hb.mono BP.out.size))
      have HSd := Lib.hid (HSp.out.later hb)
      have KVd := Lib.hid (KVp.out.later hb)
      have HKd := Lib.hid (HKp.out.up (Loose.of hb))
      have H8d := Lib.hid (H8p.out.later hb)
      have HNd := Lib.hid (HNp.out.up (Loose.of hb))
      have H9d := Lib.hid (H9p.out.later hb)
      clear BP HSp KVp HKp H8p HNp H9p
      clear hb
      have m6 := (show BoxN d q 29 (mdCells Fk sk).toArray from HMS.out ▸ HSd.out).cell 6 (.slice Fk.Q sk.qs.length Fk.qc) rfl
      have m1 := (show BoxN d q 29 (mdCells Fk sk).toArray from HMS.out ▸ HSd.out).cell 4 (.int .i64 sk.now) rfl
      have zq := HSd.out.lt
      have n5 := H9d.out.cell 5 (.slice F'.A s'.seats.length F'.ac) rfl
      have n6 := H9d.out.cell 6 (.slice F'.Q s'.qs.length F'.qc) rfl
      have z9 := H9d.out.lt
      have p0 := (show BoxN d b8 60 (opCells op).toArray from HOS.out ▸ H8d.out).cell 0 (.int .i64 op.kind) rfl
      have p3 := (show BoxN d b8 60 (opCells op).toArray from HOS.out ▸ H8d.out).cell 3 (.int .i64 op.seat) rfl
      have p4 := (show BoxN d b8 60 (opCells op).toArray from HOS.out ▸ H8d.out).cell 4 (.int .i64 op.section_) rfl
      have p7 := (show BoxN d b8 60 (opCells op).toArray from HOS.out ▸ H8d.out).cell 7 (.int .u32 op.tk.seat) rfl
      have z8 := H8d.out.lt
      have v0 := KVd.out.cell 0 _ rfl
      have v1 := KVd.out.cell 1 _ rfl
      have v2 := KVd.out.cell 2 _ rfl
      have v3 := KVd.out.cell 3 _ rfl
      have zv := KVd.out.lt
      by_cases hjl : j < sk.qs.length
      case neg => as_aux_lemma =>
        obtain rfl : j = sk.qs.length := by omega
        have t0 : decide ((sk.qs.length : Int) < (sk.qs.length : Int)) = false := by simp
        clear HDL2
        obtain ⟨hs, hhs⟩ : ∃ hs : List Value, hs = mdCells F' s' := ⟨_, rfl⟩
        rw [← hhs] at S9 S9A O9 L9 H9d
        have HHS := Lib.hid hhs
        clear hhs
        have hrow := grownBy_setRow HSd.out hs.toArray
        have htag := Tag.of_box HSd.out
        go_wp2_with (first | refine wpList_load_mid rfl 29 (.tmp 9) rfl b9 0 rfl hs _ H9d.out.range2 Tryz.underlying29 rfl S9.out ?_ | refine wpList_store_row rfl 29 (.tmp 5) (.tmp 210) rfl q hs.toArray rfl rfl 29 _ HSd.out S9A.out (LM.out.trans L9.out.symm) O9.out ?_)
        exact ⟨⟨k + 1, F', by omega, by go_num, Lib.hid (BD.out.grown hrow.1 BD.out.size (fun j hj => by injection hj with hj; omega)), Lib.hid (by rw [HNS.out, ← HHS.out]; exact hrow.2), Lib.hid (by rw [HNS.out]; exact HNd.out.up (Loose.grown hrow.1 htag (by omega) (by decide) (by decide) (by decide))), Lib.hid (KVd.out.kept hrow.1 (fun e => by injection e with e; omega)), Lib.hid (fun _ => by rw [HNS.out]; exact HNN.out)⟩, by simp [intOf]; omega⟩
      have t0 : decide ((j : Int) < (sk.qs.length : Int)) = true := decide_eq_true (by omega)
      have hjn : j < s'.qs.length := by rw [OKn.out.qs, HVN.out]; have := OKk.out.qs; rw [HX.out] at this; omega
      obtain ⟨bQ, oQ, A0, c0, hQ, hbQ, hqc, hql⟩ := HKd.out.isMd.listIn hjl
      rw [hQ] at m6
      obtain ⟨bN, oN, A1, c1, hQn, hbN, hnc, hnl⟩ := HNd.out.isMd.listIn hjn
      rw [hQn] at n6
      have hqs8 := OKk.out.nqs
      have hj0 : (0 : Int) ≤ (j : Int) := by omega
      have hj1 : (j : Int) < (sk.qs.length : Int) := by omega
      have hj2 : (j : Int) < (s'.qs.length : Int) := by omega
      have hca := hql.cap
      have hcb := hnl.cap
      have HAl := Lib.hid hql
      have HBl := Lib.hid hnl
      have HDJ := Lib.hid (HDL2.out j)
      clear hQ hQn hql hnl HDL2
      unfold ListsOk at HDJ
      generalize listAt sk j = a at hqc HAl hca HDJ
      generalize listAt s' j = b at hnc HBl hcb HDJ
      go_upto_region 26 with fail
      go_quiet (fail)
      clear m6 n6 hqc hnc
      refine at_world (fun X => Below d.heap.size d X) (bdN (Below.refl _ _) _) fun e hb => ?_
      have HPe := Lib.hid (HP.out.trans (hb.mono HP.out.size))
      clear m1 zq n5 z9 p0 p3 p4 p7 z8 v0 v1 v2 v3 zv
      have BE := Lib.hid (BD.out.trans (hb.mono BD.out.size))
      have HSe := Lib.hid (HSd.out.later hb)
      have KVe := Lib.hid (KVd.out.later hb)
      have HKe := Lib.hid (HKd.out.up (Loose.of hb))
      have H8e := Lib.hid (H8d.out.later hb)
      have HNe := Lib.hid (HNd.out.up (Loose.of hb))
      have H9e := Lib.hid (H9d.out.later hb)
      clear BD HSd KVd HKd H8d HNd H9d
      have HAe := Lib.hid (HAl.out.up hb)
      have HBe := Lib.hid (HBl.out.up hb)
      clear hb HP HAl HBl hbQ hbN
      have m6 := (show BoxN e q 29 (mdCells Fk sk).toArray from HMS.out ▸ HSe.out).cell 6 (.slice Fk.Q sk.qs.length Fk.qc) rfl
      have m1 := (show BoxN e q 29 (mdCells Fk sk).toArray from HMS.out ▸ HSe.out).cell 4 (.int .i64 sk.now) rfl
      have zq := HSe.out.lt
      have n5 := H9e.out.cell 5 (.slice F'.A s'.seats.length F'.ac) rfl
      have n6 := H9e.out.cell 6 (.slice F'.Q s'.qs.length F'.qc) rfl
      have z9 := H9e.out.lt
      have p0 := (show BoxN e b8 60 (opCells op).toArray from HOS.out ▸ H8e.out).cell 0 (.int .i64 op.kind) rfl
      have p3 := (show BoxN e b8 60 (opCells op).toArray from HOS.out ▸ H8e.out).cell 3 (.int .i64 op.seat) rfl
      have p4 := (show BoxN e b8 60 (opCells op).toArray from HOS.out ▸ H8e.out).cell 4 (.int .i64 op.section_) rfl
      have p7 := (show BoxN e b8 60 (opCells op).toArray from HOS.out ▸ H8e.out).cell 7 (.int .u32 op.tk.seat) rfl
      have z8 := H8e.out.lt
      have v0 := KVe.out.cell 0 _ rfl
      have v1 := KVe.out.cell 1 _ rfl
      have v2 := KVe.out.cell 2 _ rfl
      have v3 := KVe.out.cell 3 _ rfl
      have zv := KVe.out.lt
      go_upto_region 27 with fail
      go_cut [173] from 148 to 209 (fun v W => ∃ tb : Bool, v = .bool tb ∧ Hid (tb = true ↔ op.kind = 11 ∧ (j : Int) = op.section_) ∧ W = e)
      case first => as_aux_lemma =>
        by_cases h11 : op.kind = 11
        · have t1 : (op.kind == 11) = true := by simpa using h11
          have hm := Lib.hid h11
          clear h11 HDJ
          go_wp2_with fail
          go_meet
          exact ⟨_, rfl, Lib.hid (by simp [hm.out]), rfl⟩
        · have t1 : (op.kind == 11) = false := by simpa using h11
          have hm := Lib.hid h11
          clear h11 HDJ
          go_wp2_with fail
          go_meet
          exact ⟨_, rfl, Lib.hid (by simp [hm.out]), rfl⟩
      case rest =>
      obtain ⟨tb, rfl, HTB, rfl⟩ := hcut
      rename World => e
      cases tb
      case true => as_aux_lemma =>
        clear HDJ
        go_wp2_with fail
        exact ⟨⟨j + 1, by omega, by go_num, HPe⟩, by simp [intOf]; omega⟩
      have hsk : ¬ (op.kind = 11 ∧ (j : Int) = op.section_) := fun h => by have := HTB.out.2 h; cases this
      have HT := Lib.hid (HDJ.out hsk)
      clear hsk HDJ
      have hWc : IntKind.i64.wrap ((a.length : Int) - (b.length : Int)) = (a.length : Int) - (b.length : Int) := IntWalk.i64_in _ (by omega)
      obtain ⟨cn, hcn⟩ : ∃ cn, a.length - b.length = cn := ⟨_, rfl⟩
      have hmx : max ((a.length : Int) - (b.length : Int)) 0 = (cn : Int) := by omega
      have HT1 := Lib.hid HT.out.1
      have HT2 := Lib.hid HT.out.2
      clear HT
      go_wp2_with fail
      go_loopw [19] (fun i wr => ∃ n : Nat, cn ≤ n ∧ n ≤ a.length ∧ i = .int .i64 (n : Int) ∧ Hid (Below e.heap.size e wr)) (fun i _ => a.length - (intOf i).toNat)
      case atStart => exact ⟨cn, by omega, by omega, by first | rfl | rw [hmx], Lib.hid (Below.refl _ _)⟩
      case round =>
        obtain ⟨n, hn0, hn1, rfl, HR⟩ := hrel
        rename World => g
        by_cases hna : n < a.length
        case pos => as_aux_lemma =>
          have t2 : decide ((n : Int) < (a.length : Int)) = true := decide_eq_true (by omega)
          have hnb : n - cn < b.length := by omega
          obtain ⟨ba', oa', hA0, hba', hva, _⟩ := (HAe.out.up HR.out).atU hna
          obtain ⟨bb', ob', hB0, hbb', hvb, _⟩ := (HBe.out.up HR.out).atU hnb
          have heq : b[n - cn] = a[n] := by
            have h := HT1.out n (by omega) hna
            rw [hcn, List.getElem?_eq_getElem hnb, List.getElem?_eq_getElem hna] at h
            injection h
          rw [heq] at hvb
          generalize a[n] = yv at hva hvb
          subst hA0 hB0
          have hW : IntKind.i64.wrap ((n : Int) - (cn : Int)) = ((n - cn : Nat) : Int) := by rw [show (n : Int) - (cn : Int) = ((n - cn : Nat) : Int) by omega]; exact IntWalk.i64_in _ (by omega)
          have hn2 : (0 : Int) ≤ (n : Int) := by omega
          have hn3 : (n : Int) < (a.length : Int) := by omega
          have hn4 : (0 : Int) ≤ ((n - cn : Nat) : Int) := by omega
          have hn5 : ((n - cn : Nat) : Int) < (b.length : Int) := by omega
          clear heq
          go_upto_region 32 with fail
          go_quiet (fail)
          go_wp2_with fail
          exact ⟨⟨n + 1, by omega, by omega, by go_num, Lib.hid (bdN HR.out _)⟩, by simp [intOf]; omega⟩
        obtain rfl : n = a.length := by omega
        have t2 : decide ((a.length : Int) < (a.length : Int)) = false := by simp
        have hb := HR.out
        have HPg := Lib.hid (HPe.out.trans (hb.mono HPe.out.size))
        have p0g := cell_later hb p0
        have z8g := Nat.lt_of_lt_of_le z8 hb.size
        have H8g := Lib.hid (H8e.out.later hb)
        clear hb
        by_cases h12 : op.kind = 12
        case pos => as_aux_lemma =>
          have t3 : (op.kind != 12) = false := by simpa using h12
          clear h12
          go_wp2_with fail
          exact ⟨⟨j + 1, by omega, by go_num, HPg⟩, by simp [intOf]; omega⟩
        have t3 : (op.kind != 12) = true := by simpa using h12
        cases hfr : freedB op
        case true => as_aux_lemma =>
          have HFR := Lib.hid hfr
          clear hfr h12
          go_wp2_with (refine wpList_load_midg rfl 60 (.tmp 8) rfl b8 0 rfl os _ H8g.out.range2 Tryz.underlying60 rfl S2.out ?_)
          rw [HOS.out]
          refine (lawFreed_any op _).mono ?_
          rw [HFR.out]
          rintro e' g2 ⟨rfl, hb⟩
          go_wp2_with fail
          exact ⟨⟨j + 1, by omega, by go_num, Lib.hid (HPg.out.trans (hb.mono HPg.out.size))⟩, by simp [intOf]; omega⟩
        have HFR := Lib.hid hfr
        have hz : cn = 0 := by
          have := HT2.out h12 (fun h => by rw [freedB_iff.2 h] at hfr; cases hfr)
          omega
        have t4 : decide ((0 : Int) < (cn : Int)) = false := decide_eq_false (by omega)
        have t4' : decide (0 < cn) = false := decide_eq_false (by omega)
        clear hfr h12 hz
        go_wp2_with (refine wpList_load_midg rfl 60 (.tmp 8) rfl b8 0 rfl os _ H8g.out.range2 Tryz.underlying60 rfl S2.out ?_)
        rw [HOS.out]
        refine (lawFreed_any op _).mono ?_
        rw [HFR.out]
        rintro e' g2 ⟨rfl, hb⟩
        go_wp2_with fail
        exact ⟨⟨j + 1, by omega, by go_num, Lib.hid (HPg.out.trans (hb.mono HPg.out.size))⟩, by simp [intOf]; omega⟩
end Go.Proofs.YtinbjfkkpcpokaaGreatDoor
