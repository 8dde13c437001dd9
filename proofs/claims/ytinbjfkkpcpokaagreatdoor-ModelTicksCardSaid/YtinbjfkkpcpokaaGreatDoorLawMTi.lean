/-
  Walk of the law ModelTicks. Conditions: the pinned table lies where it was laid.
-/
import Derived.Test.YtinbjfkkpcpokaaGreatDoorLmH
namespace Go.Proofs.YtinbjfkkpcpokaaGreatDoor
open Go.RowKit

set_option maxRecDepth 20000 in
set_option maxHeartbeats 16000000 in
theorem lawTicks_any {w : World} {V : Option Addr} {vc : Nat} {x : Ve} (hv : Sl secR w (.slice V x.secs.length vc) x.secs) (hb1 : Bd x.shards) (hb2 : Bd x.ttl) (hb3 : Bd x.session) {A : Option Addr} {c : Nat} {ops : List MOp} (ho : Sl opR w (.slice A ops.length c) ops) {now : Int} (hnow : Bd now) (hu : UsesAt w) :
    Calls Tryz.prog 11 #[.agg #[.int .i64 x.shards, .int .i64 x.ttl, .int .i64 x.session, .slice V x.secs.length vc], .slice A ops.length c, .int .i64 now] w fun e w' => e = .returned (.bool true) ∧ Below w.heap.size w w' := by
  have hcap := ho.cap
  have HO := Lib.hid ho
  have HU := Lib.hid hu
  have HV := Lib.hid hv
  have CW := Lib.hid (fun W (hb : Below w.heap.size w W) => wide_any (hv.up hb))
  have CN := Lib.hid (fun W (hb : Below w.heap.size w W) => new_any (hv.up hb) hb1 hb2 hb3)
  have HOK := Lib.hid (@newM_ok x)
  have HVE := Lib.hid (@newM_ve x)
  have HBT := Lib.hid hb2
  have HNOW := Lib.hid hnow
  clear hnow
  clear hv ho hu
  unfold NewPost at CN
  generalize newM x = M at CN HOK HVE
  obtain ⟨s, E⟩ := M
  go_enter Tryz.func11, Tryz.ntmps11
  go_upto_region 1 with fail
  refine at_world (fun X => Below w.heap.size w X ∧ BoxN X w.heap.size 25 #[.int .i64 x.shards, .int .i64 x.ttl, .int .i64 x.session, .slice V x.secs.length vc]) ⟨ba _ _, BoxN.new _ _ _⟩ fun w0 hw0 => ?_
  have B0 := Lib.hid hw0.1
  have K0 := Lib.hid hw0.2
  clear hw0
  have a0 := K0.out.cell 0 _ rfl
  have a1 := K0.out.cell 1 _ rfl
  have a2 := K0.out.cell 2 _ rfl
  have a3 := K0.out.cell 3 _ rfl
  have z0 := K0.out.lt
  go_wp2_with fail
  refine (CW.out _ B0.out).mono ?_
  rintro e w1 ⟨b, rfl, hb⟩
  have B1 := Lib.hid (B0.out.trans (hb.mono B0.out.size))
  have K1 := Lib.hid (K0.out.later hb)
  clear hb a0 a1 a2 a3 z0 B0 K0 CW
  have a0 := K1.out.cell 0 _ rfl
  have a1 := K1.out.cell 1 _ rfl
  have a2 := K1.out.cell 2 _ rfl
  have a3 := K1.out.cell 3 _ rfl
  have z0 := K1.out.lt
  cases b
  case true =>
    go_wp2_with fail
    refine (shown_any _ (HU.out.up B1.out HU.out.1)).mono ?_
    rintro e w9 ⟨rfl, hb9⟩
    go_wp2_with fail
    go_ret
    exact ⟨rfl, B1.out.trans (hb9.mono B1.out.size)⟩
  by_cases h40 : 30 < ops.length
  · have t40 : decide ((30 : Int) < (ops.length : Int)) = true := decide_eq_true (by omega)
    go_wp2_with fail
    refine (shown_any _ (HU.out.up B1.out HU.out.1)).mono ?_
    rintro e w9 ⟨rfl, hb9⟩
    go_wp2_with fail
    go_ret
    exact ⟨rfl, B1.out.trans (hb9.mono B1.out.size)⟩
  have t40 : decide ((30 : Int) < (ops.length : Int)) = false := decide_eq_false (by omega)
  go_wp2_with fail
  refine (CN.out _ B1.out).mono ?_
  rintro e w2 ⟨F, rfl, hb, hI⟩
  have B2 := Lib.hid (B1.out.trans (hb.mono B1.out.size))
  have HI2 := Lib.hid hI
  have KV2 := Lib.hid (K1.out.later hb)
  clear hb hI a0 a1 a2 a3 z0 CN K1
  have S7A := Lib.hid (show (Tryz.prog.info? 29).map (·.size) = some (mdCells F s).toArray.size by kernel_rfl)
  have O7 := Lib.hid (show (mdCells F s).toArray.all (·.oneCell') = true by simp [mdCells, Value.oneCell'])
  have L7 := Lib.hid (show (mdCells F s).toArray.size = 7 by rfl)
  have MV := Lib.hid (show mdV F s = .agg (mdCells F s).toArray from rfl)
  simp only
  rw [MV.out]
  go_upto_region 4 with (refine wpList_store_row rfl 29 (.tmp 7) (.tmp 30) rfl w2.heap.size (mdCells F s).toArray rfl rfl 29 _ (BoxN.new _ _ _) S7A.out L7.out.symm O7.out ?_)
  obtain ⟨q, hq⟩ : ∃ q, w2.heap.size = q := ⟨_, rfl⟩
  rw [hq]
  have hbn : BoxN (w2.alloc (.cells #[.int .i64 0, .int .i64 0, .int .i64 0, .slice none 0 0, .int .i64 0, .slice none 0 0, .slice none 0 0] 29)) q 29 #[.int .i64 0, .int .i64 0, .int .i64 0, .slice none 0 0, .int .i64 0, .slice none 0 0, .slice none 0 0] := hq ▸ BoxN.new w2 29 #[.int .i64 0, .int .i64 0, .int .i64 0, .slice none 0 0, .int .i64 0, .slice none 0 0, .slice none 0 0]
  have hrow := grownBy_setRow hbn (mdCells F s).toArray
  refine at_world (fun X => Below w2.heap.size w2 X ∧ BoxN X q 29 (mdCells F s).toArray) ⟨(ba w2 (.cells #[.int .i64 0, .int .i64 0, .int .i64 0, .slice none 0 0, .int .i64 0, .slice none 0 0, .slice none 0 0] 29)).grown hrow.1 (by simp) (fun k hk => by injection hk with hk; omega), hrow.2⟩ fun w3 hw3 => ?_
  have B3 := Lib.hid (B2.out.trans (hw3.1.mono B2.out.size))
  have HK3 := Lib.hid (MdKeep.first HI2.out hw3.1)
  have K3 := Lib.hid hw3.2
  have KV3 := Lib.hid (KV2.out.later hw3.1)
  have hlq : w2.heap.size ≤ q := by omega
  have hwq : w.heap.size ≤ q := by have := B2.out.size; omega
  have hvq : w.heap.size < q := by have := KV2.out.lt; omega
  obtain ⟨lo, hlow⟩ : ∃ lo, w2.heap.size = lo := ⟨_, rfl⟩
  rw [hlow] at HK3 hlq
  have hvl : w.heap.size < lo := by have := KV2.out.lt; omega
  clear hbn hrow hw3 HI2 S7A O7 L7 MV hq B2 hlow KV2
  by_cases hE : E = 0
  case neg =>
    have t1 : (E != 0) = true := by simpa using hE
    go_wp2_with fail
    refine (shown_any _ (HU.out.up B3.out HU.out.1)).mono ?_
    rintro e w9 ⟨rfl, hb9⟩
    go_wp2_with fail
    go_ret
    exact ⟨rfl, B3.out.trans (hb9.mono B3.out.size)⟩
  have OK := Lib.hid (HOK.out hE)
  have HX0 := Lib.hid (HVE.out hE)
  subst hE
  go_wp2_with fail
  go_loopw [9] (fun i wr => ∃ (k : Nat) (Fk : MFrm), k ≤ ops.length ∧ i = .int .i64 (k : Int) ∧ Hid (Below w.heap.size w wr) ∧ Hid (BoxN wr q 29 (mdCells Fk (stAt s ops k)).toArray) ∧ Hid (MdKeep lo wr Fk (stAt s ops k)) ∧ Hid (BoxN wr w.heap.size 25 #[.int .i64 x.shards, .int .i64 x.ttl, .int .i64 x.session, .slice V x.secs.length vc]) ∧ Hid (Bd (stAt s ops k).now)) (fun i _ => ops.length - (intOf i).toNat)
  case atStart => exact ⟨0, F, by omega, rfl, B3, K3, HK3, KV3, Lib.hid (by rw [stAt_zero, HX0.out.2]; simp [Bd])⟩
  case round =>
    obtain ⟨k, Fk, hk, rfl, HB, HS, HK, KV, HNB⟩ := hrel
    rename World => wq
    have hloW : lo ≤ wq.heap.size := by have := HS.out.lt; omega
    have OKk := Lib.hid (show MdOk (stAt s ops k) from runTo_ok OK.out _)
    by_cases hlt : k < ops.length
    case pos => as_aux_lemma =>
      have t0 : decide ((k : Int) < (ops.length : Int)) = true := decide_eq_true (by omega)
      have HNX := Lib.hid (stAt_succ s hlt)
      have hk0 : (0 : Int) ≤ (k : Int) := by omega
      have hk1 : (k : Int) < (ops.length : Int) := by omega
      obtain ⟨bl, off, os, rfl, hbl, ⟨hos, hoo⟩, hat⟩ := (HO.out.up HB.out).at_ hlt
      have HAT := Lib.hid (show wq.rangeAt bl (off + k * 12) os from hat)
      have HOO := Lib.hid hoo
      clear hat hoo
      have HNN := Lib.hid (doM_now (stAt s ops k) ops[k] HNB.out HOO.out)
      have CD := Lib.hid (fun W (hb : Below wq.heap.size wq W) => mDo_any lo Fk (stAt s ops k) ops[k] W (HK.out.up (Loose.of hb)) (Nat.le_trans hloW hb.size) (md_small OKk.out) HOO.out (HU.out.up (HB.out.trans (hb.mono HB.out.size)) HU.out.1))
      unfold MDoPost at CD
      rw [mdoM_ok OKk.out, ← hos] at CD
      have S2 := Lib.hid (show (Tryz.prog.info? 60).map (·.size) = some os.length by rw [hos]; kernel_rfl)
      generalize hop : ops[k] = op at CD HNX hos HNN
      generalize doM (stAt s ops k) op = N at CD HNX HNN
      obtain ⟨s', r, f⟩ := N
      simp only at CD HNX HNN
      have HNS := Lib.hid (show stAt s ops (k + 1) = s' from HNX.out)
      generalize stAt s ops k = sk at HS HK OKk CD HNB
      have MVk := Lib.hid (show mdV Fk sk = .agg (mdCells Fk sk).toArray from rfl)
      have S7 := Lib.hid (show (Tryz.prog.info? 29).map (·.size) = some (mdCells Fk sk).length by kernel_rfl)
      rw [MVk.out] at CD
      obtain ⟨ms, hms⟩ : ∃ ms : List Value, ms = mdCells Fk sk := ⟨_, rfl⟩
      have LM := Lib.hid (show ms.toArray.size = 7 by rw [hms]; rfl)
      rw [← hms] at CD S7 HS
      clear hms hos hop HOO HNX
      go_upto_region 9 with fail
      refine wp_region_still_seq 5 (by kernel_rfl) (by kernel_rfl) (fun _ _ _ _ _ h => h) ?_
      simp only [List.take_succ_cons, List.take_zero, List.drop_succ_cons, List.drop_zero, World.drew_eq]
      have HSd := Lib.hid (HS.out.later (bdd (Below.refl _ _)))
      refine wpStill_load_mid rfl 29 (.tmp 7) rfl q 0 rfl ms _ HSd.out.range2 Tryz.underlying29 rfl S7.out ?_
      still_step
      still_step
      still_step
      refine wpStill_load_mid rfl 60 (.tmp 45) rfl bl (off + k * 12) rfl os _ (range_later (bdd (Below.refl _ _)) HAT.out) Tryz.underlying60 rfl S2.out ?_
      refine wpStill_nil ?_
      go_wp2_with fail
      refine (CD.out _ (bdd (Below.refl _ _))).mono ?_
      rintro e x2 ⟨F', rfl, hb, hk9⟩
      replace hb : Below wq.heap.size wq x2 := (bdd (Below.refl _ _)).trans hb
      have B2 := Lib.hid (HB.out.trans (hb.mono HB.out.size))
      have HS2 := Lib.hid (HS.out.later hb)
      have KV2 := Lib.hid (KV.out.later hb)
      have HN2 := Lib.hid hk9
      clear hb hk9 CD HSd HAT
      have S9A := Lib.hid (show (Tryz.prog.info? 29).map (·.size) = some (mdCells F' s').toArray.size by kernel_rfl)
      have O9 := Lib.hid (show (mdCells F' s').toArray.all (·.oneCell') = true by simp [mdCells, Value.oneCell'])
      have L9 := Lib.hid (show (mdCells F' s').toArray.size = 7 by rfl)
      have V9 := Lib.hid (show mdV F' s' = .agg (mdCells F' s').toArray from rfl)
      rw [V9.out]
      obtain ⟨hs, hhs⟩ : ∃ hs : List Value, hs = mdCells F' s' := ⟨_, rfl⟩
      rw [← hhs]
      rw [← hhs] at S9A O9 L9
      have HHS := Lib.hid hhs
      clear hhs V9
      have hrow := grownBy_setRow HS2.out hs.toArray
      have htag := Tag.of_box HS2.out
      go_wp2_with (refine wpList_store_row rfl 29 (.tmp 7) (.tmp 48) rfl q hs.toArray rfl rfl 29 _ HS2.out S9A.out (LM.out.trans L9.out.symm) O9.out ?_)
      exact ⟨⟨k + 1, F', by omega, by go_num, Lib.hid (B2.out.grown hrow.1 B2.out.size (fun j hj => by injection hj with hj; omega)), Lib.hid (by rw [HNS.out, ← HHS.out]; exact hrow.2), Lib.hid (by rw [HNS.out]; exact HN2.out.up (Loose.grown hrow.1 htag (by omega) (by decide) (by decide) (by decide))), Lib.hid (KV2.out.kept hrow.1 (fun e => by injection e with e; omega)), Lib.hid (by rw [HNS.out]; exact HNN.out)⟩, by simp [intOf]; omega⟩
    obtain rfl : k = ops.length := by omega
    have t0 : decide ((ops.length : Int) < (ops.length : Int)) = false := by simp
    have HX := Lib.hid (show (stAt s ops ops.length).ve = x from (stAt_ve s ops _ (Nat.le_refl _)).trans HX0.out.1)
    generalize stAt s ops ops.length = sk at HS HK OKk HNB HX
    have HT1 := Lib.hid (tick_do sk now)
    have HT2 := Lib.hid (fun h => tick_to OKk.out (t := now) h HNOW.out)
    have HVN := Lib.hid ((doM_ve sk (tkOp now)).trans HX.out)
    have OKn := Lib.hid (OKk.out.do_ (tkOp now))
    have POP := Lib.hid (show OpOk (tkOp now) from ⟨by simp [tkOp, Bd], by simp [tkOp, U32], by simp [tkOp, Bd], by simp [tkOp, Bd], by simp [tkOp, Bd], by simp [tkOp, Bd], by simp [tkOp, U32], by simp [tkOp, TkOk, noTk, U32, U64], HNOW.out⟩)
    have CD := Lib.hid (fun W (hb : Below wq.heap.size wq W) => mDo_any lo Fk sk (tkOp now) W (HK.out.up (Loose.of hb)) (Nat.le_trans hloW hb.size) (md_small OKk.out) POP.out (HU.out.up (HB.out.trans (hb.mono HB.out.size)) HU.out.1))
    unfold MDoPost at CD
    rw [mdoM_ok OKk.out] at CD
    generalize doM sk (tkOp now) = N at CD HT1 HT2 OKn HVN
    obtain ⟨s', r, f⟩ := N
    simp only at CD HT1 HT2 OKn HVN
    have hf := HT1.out.1
    subst hf
    have MVk := Lib.hid (show mdV Fk sk = .agg (mdCells Fk sk).toArray from rfl)
    have S7 := Lib.hid (show (Tryz.prog.info? 29).map (·.size) = some (mdCells Fk sk).length by kernel_rfl)
    rw [MVk.out] at CD
    obtain ⟨ms, hms⟩ : ∃ ms : List Value, ms = mdCells Fk sk := ⟨_, rfl⟩
    rw [← hms] at CD S7 HS
    have HMS := Lib.hid hms
    clear hms POP
    go_upto_region 10 with fail
    go_cut [8, 10, 11] from 51 to 58 (fun v8 v10 v11 W => ∃ b9 F', v8 = .int .i64 0 ∧ v10 = .pointer (some ⟨b9, 0, none⟩) ∧ v11 = .pointer (some ⟨b9 + 1, 0, none⟩) ∧ Below wq.heap.size wq W ∧ BoxN W b9 29 (mdCells F' s').toArray ∧ BoxN W (b9 + 1) 56 (rpCells r).toArray ∧ MdKeep lo W F' s')
    case first => as_aux_lemma =>
      go_wp2_with (refine wpList_load_mid rfl 29 (.tmp 7) rfl q 0 rfl ms _ HS.out.range2 Tryz.underlying29 rfl S7.out ?_)
      refine (CD.out _ (Below.refl _ _)).mono ?_
      rintro e x2 ⟨F', rfl, hb, hk9⟩
      have HN2 := Lib.hid hk9
      have HB2 := Lib.hid hb
      clear hb hk9 CD
      have S9A := Lib.hid (show (Tryz.prog.info? 29).map (·.size) = some (mdCells F' s').toArray.size by kernel_rfl)
      have O9 := Lib.hid (show (mdCells F' s').toArray.all (·.oneCell') = true by simp [mdCells, Value.oneCell'])
      have L9 := Lib.hid (show (mdCells F' s').toArray.size = 7 by rfl)
      have S8A := Lib.hid (show (Tryz.prog.info? 56).map (·.size) = some (rpCells r).toArray.size by kernel_rfl)
      have O8 := Lib.hid (show (rpCells r).toArray.all (·.oneCell') = true by simp [rpCells, Value.oneCell'])
      have L8 := Lib.hid (show (rpCells r).toArray.size = 9 by rfl)
      have V8 := Lib.hid (show RpV r = .agg (rpCells r).toArray from rfl)
      have V9 := Lib.hid (show mdV F' s' = .agg (mdCells F' s').toArray from rfl)
      rw [V9.out, V8.out]
      obtain ⟨hs, hhs⟩ : ∃ hs : List Value, hs = mdCells F' s' := ⟨_, rfl⟩
      obtain ⟨rs, hrs⟩ : ∃ rs : List Value, rs = rpCells r := ⟨_, rfl⟩
      rw [← hhs, ← hrs]
      rw [← hhs] at S9A O9 L9
      rw [← hrs] at S8A O8 L8
      have HHS := Lib.hid hhs
      have HRS := Lib.hid hrs
      clear hhs hrs V8 V9
      go_wp2_with (first | refine wpList_store_row rfl 29 (.tmp 10) (.tmp 56) rfl x2.heap.size hs.toArray rfl rfl 29 _ (two_boxes rfl _ _ _ _).2.1 S9A.out L9.out.symm O9.out ?_ | refine wpList_store_row rfl 56 (.tmp 11) (.tmp 57) rfl (x2.heap.size + 1) rs.toArray rfl rfl 56 _ (two_rows (two_boxes rfl _ _ _ _).2.1 (two_boxes rfl _ _ _ _).2.2 (by omega) _ #[]).1 S8A.out L8.out.symm O8.out ?_)
      have htb := two_boxes (W := x2) rfl #[.int .i64 0, .int .i64 0, .int .i64 0, .slice none 0 0, .int .i64 0, .slice none 0 0, .slice none 0 0] #[.int .i64 0, .int .i64 0, .int .i64 0, .int .i64 0, .int .u32 0, .int .u32 0, .int .u64 0, .int .u64 0, .int .i64 0] 29 56
      have hrow := two_rows htb.2.1 htb.2.2 (by omega) hs.toArray rs.toArray
      have hbw : Below x2.heap.size x2 _ := (htb.1.grown hrow.2.1 htb.1.size (fun k hk => by injection hk with hk; omega)).grown hrow.2.2.1 (Nat.le_trans htb.1.size hrow.2.1.size) (fun k hk => by injection hk with hk; omega)
      refine at_world (fun X => Below x2.heap.size x2 X ∧ BoxN X x2.heap.size 29 hs.toArray ∧ BoxN X (x2.heap.size + 1) 56 rs.toArray) ⟨hbw, hrow.2.2.2.1, hrow.2.2.2.2⟩ fun y hX => ?_
      clear htb hrow hbw
      go_meet
      exact ⟨_, F', rfl, rfl, rfl, HB2.out.trans (hX.1.mono HB2.out.size), by rw [← HHS.out]; exact hX.2.1, by rw [← HRS.out]; exact hX.2.2, HN2.out.up (Loose.of hX.1)⟩
    case rest =>
    obtain ⟨b9, F', rfl, rfl, rfl, hb, h9, h10, hkn⟩ := hcut
    rename World => y
    have BY := Lib.hid (HB.out.trans (hb.mono HB.out.size))
    have HSy := Lib.hid (show BoxN y q 29 (mdCells Fk sk).toArray from HMS.out ▸ HS.out.later hb)
    have KVy := Lib.hid (KV.out.later hb)
    have HKy := Lib.hid (HK.out.up (Loose.of hb))
    have HNy := Lib.hid hkn
    have H9y := Lib.hid h9
    have u0 := h10.cell 0 (.int .i64 r.err) rfl
    have zr := h10.lt
    clear hb h9 h10 hkn CD HB HS KV HK S7 HMS
    have m4 := HSy.out.cell 4 (.int .i64 sk.now) rfl
    have zq := HSy.out.lt
    go_upto_region 11 with fail
    by_cases hlt : now < sk.now
    case pos => as_aux_lemma =>
      have herr := HT1.out.2.1 hlt
      rw [herr] at u0
      have t2 : decide (now < sk.now) = true := decide_eq_true hlt
      clear hlt herr HT1 HT2
      go_wp2_with fail
      refine (shown_any _ (HU.out.up BY.out HU.out.1)).mono ?_
      rintro e w9 ⟨rfl, hb9⟩
      go_wp2_with fail
      go_ret
      exact ⟨rfl, BY.out.trans (hb9.mono BY.out.size)⟩
    have hle : sk.now ≤ now := by omega
    have herr := (HT1.out.2.2 hle).1
    rw [herr] at u0
    have t2 : decide (now < sk.now) = false := decide_eq_false hlt
    have HLE := Lib.hid hle
    have TT := Lib.hid (HT2.out hle)
    clear herr HT1 HT2 hlt hle
    go_wp2_with fail
    clear u0 zr m4 zq t2
    have hlen4 := OKk.out.len
    have hlen5 := TT.out.2.1
    go_loopw [12] (fun i wr => ∃ i' : Nat, i' ≤ sk.seats.length ∧ i = .int .i64 (i' : Int) ∧ Hid (Below y.heap.size y wr)) (fun i _ => sk.seats.length - (intOf i).toNat)
    case atStart => exact ⟨0, by omega, rfl, Lib.hid (Below.refl _ _)⟩
    case round =>
      obtain ⟨i, hi, rfl, HP⟩ := hrel
      rename World => d
      have hb := HP.out
      have BD := Lib.hid (BY.out.trans (hb.mono BY.out.size))
      have HSd := Lib.hid (HSy.out.later hb)
      have KVd := Lib.hid (KVy.out.later hb)
      have HKd := Lib.hid (HKy.out.up (Loose.of hb))
      have HNd := Lib.hid (HNy.out.up (Loose.of hb))
      have H9d := Lib.hid (H9y.out.later hb)
      clear BY HSy KVy HKy HNy H9y
      clear hb
      have m5 := HSd.out.cell 5 (.slice Fk.A sk.seats.length Fk.ac) rfl
      have zq := HSd.out.lt
      have n5 := H9d.out.cell 5 (.slice F'.A s'.seats.length F'.ac) rfl
      have n4 := H9d.out.cell 4 (.int .i64 s'.now) rfl
      have z9 := H9d.out.lt
      by_cases hil : i < sk.seats.length
      case neg => as_aux_lemma =>
        obtain rfl : i = sk.seats.length := by omega
        have t0 : decide ((sk.seats.length : Int) < (sk.seats.length : Int)) = false := by simp
        rw [TT.out.1] at n4
        clear hlen5
        go_wp2_with fail
        refine (shown_any _ (HU.out.up BD.out HU.out.1)).mono ?_
        rintro e w9 ⟨rfl, hb9⟩
        go_wp2_with fail
        go_ret
        exact ⟨rfl, BD.out.trans (hb9.mono BD.out.size)⟩
      have t0 : decide ((i : Int) < (sk.seats.length : Int)) = true := decide_eq_true (by omega)
      obtain ⟨bA, oA, hA, hbA, hr1, hx1⟩ := HKd.out.isMd.seatIn hil
      obtain ⟨bB, oB, hB, hbB, hr2, hx2⟩ := HNd.out.isMd.seatIn (i := i) (by omega)
      rw [hA] at m5
      rw [hB] at n5
      have HTI := Lib.hid (TT.out.2.2 i hil)
      have hi0 : (0 : Int) ≤ (i : Int) := by omega
      have hi1 : (i : Int) < (sk.seats.length : Int) := by omega
      have hi2 : (i : Int) < (s'.seats.length : Int) := by omega
      go_upto_region 18 with fail
      go_cut [13, 14] from 75 to 201 (fun v13 v14 W => ∃ g h, v13 = .pointer (some ⟨g, 0, none⟩) ∧ v14 = .pointer (some ⟨h, 0, none⟩) ∧ Below d.heap.size d W ∧ BoxN W g 52 (sxCells (seatAt sk i)).toArray ∧ BoxN W h 52 (sxCells (seatAt s' i)).toArray)
      case first => as_aux_lemma =>
        have c0 := hr1 0 (.int .i64 (seatAt sk i).state) rfl
        have c1 := hr1 1 (.int .u32 (seatAt sk i).owner) rfl
        have c2 := hr1 2 (.int .i64 (seatAt sk i).till) rfl
        have c3 := hr1 3 (.int .u64 (seatAt sk i).serial) rfl
        have c4 := hr1 4 (.int .u64 (seatAt sk i).epoch) rfl
        have e0 := hr2 0 (.int .i64 (seatAt s' i).state) rfl
        have e1 := hr2 1 (.int .u32 (seatAt s' i).owner) rfl
        have e2 := hr2 2 (.int .i64 (seatAt s' i).till) rfl
        have e3 := hr2 3 (.int .u64 (seatAt s' i).serial) rfl
        have e4 := hr2 4 (.int .u64 (seatAt s' i).epoch) rfl
        simp only [Nat.add_zero] at c0 e0
        clear hr1 hr2 HTI TT hx1 hx2
        generalize seatAt sk i = sx at *
        generalize seatAt s' i = sy at *
        go_big_region
        all_goals (go_wp2_with fail; go_meet)
        all_goals first
          | exact ⟨_, _, rfl, rfl, bdd (bal (ba _ _)), (two_boxes (W := d) rfl (sxCells sx).toArray (sxCells sy).toArray 52 52).2.1, (two_boxes (W := d) rfl (sxCells sx).toArray (sxCells sy).toArray 52 52).2.2⟩
          | exact ⟨_, _, rfl, rfl, bdd (bal (ba _ _)), (two_boxes (W := d) rfl (sxCells sy).toArray (sxCells sx).toArray 52 52).2.2, (two_boxes (W := d) rfl (sxCells sy).toArray (sxCells sx).toArray 52 52).2.1⟩
      case rest =>
      obtain ⟨g, h, rfl, rfl, hb, hg, hh⟩ := hcut
      rename World => e
      have HPE := Lib.hid (HP.out.trans (hb.mono HP.out.size))
      have BE := Lib.hid (BD.out.trans (hb.mono BD.out.size))
      have HSe := Lib.hid (HSd.out.later hb)
      have KVe := Lib.hid (KVd.out.later hb)
      have HKe := Lib.hid (HKd.out.up (Loose.of hb))
      have HNe := Lib.hid (HNd.out.up (Loose.of hb))
      have H9e := Lib.hid (H9d.out.later hb)
      clear BD HSd KVd HKd HNd H9d
      have HG := Lib.hid hg
      have HH := Lib.hid hh
      clear hb hg hh hr1 hr2 hx1 hx2 m5 n5 n4 z9 zq hA hB hbA hbB HP
      have x0 := HG.out.cell 0 (.int .i64 (seatAt sk i).state) rfl
      have x2 := HG.out.cell 2 (.int .i64 (seatAt sk i).till) rfl
      have zg := HG.out.lt
      by_cases hdue : (seatAt sk i).state = 1 ∧ (seatAt sk i).till ≤ now
      case neg => as_aux_lemma =>
        have hy := Lib.hid (show seatAt s' i = seatAt sk i by have h := HTI.out; unfold TickTo at h; rw [if_neg hdue] at h; exact h)
        have x1 := HG.out.cell 1 (.int .u32 (seatAt sk i).owner) rfl
        have x3 := HG.out.cell 3 (.int .u64 (seatAt sk i).serial) rfl
        have x4 := HG.out.cell 4 (.int .u64 (seatAt sk i).epoch) rfl
        have hh := HH.out
        rw [hy.out] at hh
        have y0 := hh.cell 0 (.int .i64 (seatAt sk i).state) rfl
        have y1 := hh.cell 1 (.int .u32 (seatAt sk i).owner) rfl
        have y2 := hh.cell 2 (.int .i64 (seatAt sk i).till) rfl
        have y3 := hh.cell 3 (.int .u64 (seatAt sk i).serial) rfl
        have y4 := hh.cell 4 (.int .u64 (seatAt sk i).epoch) rfl
        have zh := hh.lt
        clear hh hy HTI HH HG TT
        generalize seatAt sk i = sx at *
        by_cases hs1 : sx.state = 1
        · have t1 : (sx.state != 1) = false := by simpa using hs1
          have t3 : decide (now < sx.till) = true := decide_eq_true (by omega)
          clear hs1 hdue
          go_wp2_with fail
          exact ⟨⟨i + 1, by omega, by go_num, HPE⟩, by simp [intOf]; omega⟩
        · have t1 : (sx.state != 1) = true := by simpa using hs1
          clear hs1 hdue
          go_wp2_with fail
          exact ⟨⟨i + 1, by omega, by go_num, HPE⟩, by simp [intOf]; omega⟩
      rw [hdue.1] at x0
      have t3 : decide (now < (seatAt sk i).till) = false := decide_eq_false (by omega)
      have HDUE := Lib.hid hdue
      clear hdue
      have v0 := KVe.out.cell 0 _ rfl
      have v1 := KVe.out.cell 1 _ rfl
      have v2 := KVe.out.cell 2 _ rfl
      have v3 := KVe.out.cell 3 _ rfl
      have zv := KVe.out.lt
      have hsc := section_eq OKk.out hil
      rw [HX.out] at hsc
      have hso := secs_ok (HX.out ▸ OKk.out.ve)
      have CS := Lib.hid (fun W n (hn : n < sk.seats.length) (hb : Below w.heap.size w W) => section_any (HV.out.up hb) (n : Int) ⟨by omega, by omega⟩ hso.1 hso.2)
      have HSC := Lib.hid (fun n (hn : n < sk.seats.length) => (show secFrom x.secs (n : Int) 0 = (secOf sk n : Int) from HX.out ▸ (section_eq OKk.out hn).1))
      have hsq := hsc.2.1
      clear hsc hso
      go_wp2_with fail
      refine (CS.out _ i hil BE.out).mono ?_
      rw [HSC.out i hil]
      rintro e' f ⟨rfl, hb⟩
      have HPf := Lib.hid (HPE.out.trans (hb.mono HPE.out.size))
      have BF := Lib.hid (BE.out.trans (hb.mono BE.out.size))
      have HSf := Lib.hid (HSe.out.later hb)
      have KVf := Lib.hid (KVe.out.later hb)
      have HKf := Lib.hid (HKe.out.up (Loose.of hb))
      have HNf := Lib.hid (HNe.out.up (Loose.of hb))
      have H9f := Lib.hid (H9e.out.later hb)
      clear BE HSe KVe HKe HNe H9e
      have HGf := Lib.hid (HG.out.later hb)
      have HHf := Lib.hid (HH.out.later hb)
      clear hb HPE HG HH x0 x2 zg v0 v1 v2 v3 zv t3
      go_wp2_with fail
      have HCB := Lib.hid (fun n => cnt_le (s := sk) (t := now) i n)
      go_loopw [15, 17] (fun b m wr => ∃ n : Nat, n ≤ sk.seats.length ∧ m = .int .i64 (n : Int) ∧ b = .int .i64 ((((dueTo (nowM sk now) n).countP (aheadB (nowM sk now) i) : Nat)) : Int) ∧ Hid (Below f.heap.size f wr)) (fun _ m _ => sk.seats.length - (intOf m).toNat)
      case atStart => exact ⟨0, by omega, rfl, by simp [dueTo, dueFrom], Lib.hid (Below.refl _ _)⟩
      case round =>
        obtain ⟨n, hn, rfl, rfl, HR⟩ := hrel
        rename World => p
        have hb := HR.out
        have HPp := Lib.hid (HPf.out.trans (hb.mono HPf.out.size))
        have BP := Lib.hid (BF.out.trans (hb.mono BF.out.size))
        have HSp := Lib.hid (HSf.out.later hb)
        have KVp := Lib.hid (KVf.out.later hb)
        have HKp := Lib.hid (HKf.out.up (Loose.of hb))
        have HNp := Lib.hid (HNf.out.up (Loose.of hb))
        have H9p := Lib.hid (H9f.out.later hb)
        clear BF HSf KVf HKf HNf H9f
        have HGp := Lib.hid (HGf.out.later hb)
        have HHp := Lib.hid (HHf.out.later hb)
        clear hb HGf HHf HPf
        have m5 := HSp.out.cell 5 (.slice Fk.A sk.seats.length Fk.ac) rfl
        have zq := HSp.out.lt
        have hcb := HCB.out n
        have HBS := Lib.hid (fun (h : n < sk.seats.length) => before_succ OKk.out HLE.out (i := i) h)
        by_cases hnl : n < sk.seats.length
        case pos => as_aux_lemma =>
          have t0 : decide ((n : Int) < (sk.seats.length : Int)) = true := decide_eq_true (by omega)
          have HBS := Lib.hid (HBS.out hnl)
          obtain ⟨bA, oA, hA, hbA, hrng, hx1⟩ := HKp.out.isMd.seatIn hnl
          rw [hA] at m5
          have hn0 : (0 : Int) ≤ (n : Int) := by omega
          have hn1 : (n : Int) < (sk.seats.length : Int) := by omega
          obtain ⟨xs, hxs⟩ : ∃ xs : List Value, xs = sxCells (seatAt sk n) := ⟨_, rfl⟩
          rw [← hxs] at hrng
          have HXS := Lib.hid hxs
          have SXX := Lib.hid (show (Tryz.prog.info? 52).map (·.size) = some xs.length by rw [hxs]; kernel_rfl)
          have SXA := Lib.hid (show (Tryz.prog.info? 52).map (·.size) = some xs.toArray.size by rw [hxs]; kernel_rfl)
          have LX := Lib.hid (show xs.toArray.size = 5 by rw [hxs]; rfl)
          have OX := Lib.hid (show xs.toArray.all (·.oneCell') = true by rw [hxs]; simp [sxCells, Value.oneCell'])
          have HRG := Lib.hid hrng
          clear hrng hxs hx1 hA HTI TT HDUE
          generalize hcq : (dueTo (nowM sk now) n).countP (aheadB (nowM sk now) i) = cq at *
          go_upto_region 28 with (first | refine wpList_load_mid rfl 52 (.tmp 117) rfl bA (oA + n * 5) rfl xs _ HRG.out Tryz.underlying52 rfl SXX.out ?_ | refine wpList_store_row rfl 52 (.tmp 18) (.tmp 118) rfl p.heap.size xs.toArray rfl rfl 52 _ (BoxN.new _ _ _) SXA.out LX.out.symm OX.out ?_)
          have hbn : BoxN (p.alloc (.cells #[.int .i64 0, .int .u32 0, .int .i64 0, .int .u64 0, .int .u64 0] 52)) p.heap.size 52 #[.int .i64 0, .int .u32 0, .int .i64 0, .int .u64 0, .int .u64 0] := BoxN.new p 52 #[.int .i64 0, .int .u32 0, .int .i64 0, .int .u64 0, .int .u64 0]
          have hrow := grownBy_setRow hbn xs.toArray
          refine at_world (fun X => Below p.heap.size p X ∧ BoxN X p.heap.size 52 xs.toArray) ⟨(ba p (.cells #[.int .i64 0, .int .u32 0, .int .i64 0, .int .u64 0, .int .u64 0] 52)).grown hrow.1 (by simp) (fun k hk => by injection hk with hk; omega), hrow.2⟩ fun p1 hx => ?_
          obtain ⟨b18, hb18⟩ : ∃ b, p.heap.size = b := ⟨_, rfl⟩
          have hb := hx.1
          have H18 := Lib.hid (show BoxN p1 b18 52 (sxCells (seatAt sk n)).toArray from HXS.out ▸ hb18 ▸ hx.2)
          rw [hb18]
          have HP1 := Lib.hid (HPp.out.trans (hb.mono HPp.out.size))
          have HR1 := Lib.hid (HR.out.trans (hb.mono HR.out.size))
          have B1 := Lib.hid (BP.out.trans (hb.mono BP.out.size))
          have KV1 := Lib.hid (KVp.out.later hb)
          have HG1 := Lib.hid (HGp.out.later hb)
          clear hb hx hbn hrow hbA HRG m5 zq BP KVp HGp HHp HSp HKp HNp H9p HR HPp SXX SXA LX OX
          have v0 := KV1.out.cell 0 _ rfl
          have v1 := KV1.out.cell 1 _ rfl
          have v2 := KV1.out.cell 2 _ rfl
          have v3 := KV1.out.cell 3 _ rfl
          have zv := KV1.out.lt
          dsimp only [Act.put]
          go_cut [153] from 107 to 155 (fun v W => ∃ tb : Bool, v = .bool tb ∧ Hid (tb = true ↔ secOf sk n = secOf sk i ∧ (seatAt sk n).state = 1 ∧ (seatAt sk n).till ≤ now ∧ ((seatAt sk n).till < (seatAt sk i).till ∨ (seatAt sk n).till = (seatAt sk i).till ∧ n < i)) ∧ Below p1.heap.size p1 W)
          case first =>
            go_wp2_with fail
            refine (CS.out _ n hnl B1.out).mono ?_
            rw [HSC.out n hnl]
            rintro e' p2 ⟨rfl, hb⟩
            have h18 := H18.out.later hb
            have hg := HG1.out.later hb
            have z0 := h18.cell 0 (.int .i64 (seatAt sk n).state) rfl
            have z2 := h18.cell 2 (.int .i64 (seatAt sk n).till) rfl
            have z18 := h18.lt
            have x2 := hg.cell 2 (.int .i64 (seatAt sk i).till) rfl
            have zg := hg.lt
            have HB2 := Lib.hid hb
            clear h18 hg hb v0 v1 v2 v3 zv HBS H18 HG1
            by_cases h1 : secOf sk n = secOf sk i
            case neg =>
              have t1 : ((secOf sk n : Int) == (secOf sk i : Int)) = false := by simp; omega
              have HN := Lib.hid h1
              clear h1
              go_wp2_with fail
              go_meet
              exact ⟨_, rfl, Lib.hid ⟨fun h => by (cases h), fun h => absurd h.1 HN.out⟩, HB2.out⟩
            have t1 : ((secOf sk n : Int) == (secOf sk i : Int)) = true := by simp [h1]
            have H1 := Lib.hid h1
            clear h1
            by_cases h2 : (seatAt sk n).state = 1
            case neg =>
              have t2 : ((seatAt sk n).state == 1) = false := by simpa using h2
              have HN := Lib.hid h2
              clear h2
              go_wp2_with fail
              go_meet
              exact ⟨_, rfl, Lib.hid ⟨fun h => by (cases h), fun h => absurd h.2.1 HN.out⟩, HB2.out⟩
            have t2 : ((seatAt sk n).state == 1) = true := by simpa using h2
            have H2 := Lib.hid h2
            clear h2
            by_cases h3 : (seatAt sk n).till ≤ now
            case neg =>
              have t4 : decide ((seatAt sk n).till ≤ now) = false := decide_eq_false h3
              have HN := Lib.hid h3
              clear h3
              go_wp2_with fail
              go_meet
              exact ⟨_, rfl, Lib.hid ⟨fun h => by (cases h), fun h => absurd h.2.2.1 (by have := HN.out; omega)⟩, HB2.out⟩
            have t4 : decide ((seatAt sk n).till ≤ now) = true := decide_eq_true h3
            have H3 := Lib.hid h3
            clear h3
            by_cases h4 : (seatAt sk n).till < (seatAt sk i).till
            case pos =>
              have t5 : decide ((seatAt sk n).till < (seatAt sk i).till) = true := decide_eq_true h4
              have HN := Lib.hid h4
              clear h4
              go_wp2_with fail
              go_meet
              exact ⟨_, rfl, Lib.hid ⟨fun _ => ⟨H1.out, H2.out, H3.out, .inl (by have := HN.out; omega)⟩, fun _ => rfl⟩, HB2.out⟩
            have t5 : decide ((seatAt sk n).till < (seatAt sk i).till) = false := decide_eq_false h4
            have H4 := Lib.hid h4
            clear h4
            by_cases h5 : (seatAt sk n).till = (seatAt sk i).till
            case neg =>
              have t6 : ((seatAt sk n).till == (seatAt sk i).till) = false := by simpa using h5
              have HN := Lib.hid h5
              clear h5
              go_wp2_with fail
              go_meet
              exact ⟨_, rfl, Lib.hid ⟨fun h => by (cases h), fun h => h.2.2.2.elim (fun h => absurd h (by have := H4.out; omega)) fun h => absurd h.1 HN.out⟩, HB2.out⟩
            have t6 : ((seatAt sk n).till == (seatAt sk i).till) = true := by simpa using h5
            have H5 := Lib.hid h5
            clear h5
            by_cases h6 : n < i
            · have t7 : decide ((n : Int) < (i : Int)) = true := decide_eq_true (by omega)
              have t7' : decide (n < i) = true := decide_eq_true h6
              have HN := Lib.hid h6
              clear h6
              go_wp2_with fail
              go_meet
              exact ⟨_, rfl, Lib.hid ⟨fun _ => ⟨H1.out, H2.out, H3.out, .inr ⟨H5.out, by have := HN.out; omega⟩⟩, fun _ => rfl⟩, HB2.out⟩
            · have t7 : decide ((n : Int) < (i : Int)) = false := decide_eq_false (by omega)
              have t7' : decide (n < i) = false := decide_eq_false h6
              have HN := Lib.hid h6
              clear h6
              go_wp2_with fail
              go_meet
              exact ⟨_, rfl, Lib.hid ⟨fun h => by (cases h), fun h => h.2.2.2.elim (fun h => absurd h (by have := H4.out; omega)) fun h => absurd h.2 (by have := HN.out; omega)⟩, HB2.out⟩
          case rest =>
            obtain ⟨tb, rfl, HTB, hb⟩ := hcut
            have HR2 := Lib.hid (HR1.out.trans (hb.mono HR1.out.size))
            clear hb v0 v1 v2 v3 zv
            cases tb
            · have HBZ := Lib.hid (HBS.out.trans (by rw [if_neg (fun h => by have := HTB.out.2 h; cases this), Nat.add_zero]))
              clear HTB HBS
              go_wp2_with fail
              exact ⟨⟨n + 1, by omega, by go_num, by rw [HBZ.out], HR2⟩, by simp [intOf]; omega⟩
            · have HBZ := Lib.hid (HBS.out.trans (by rw [if_pos (HTB.out.1 rfl)]))
              clear HTB HBS
              go_wp2_with fail
              exact ⟨⟨n + 1, by omega, by go_num, by rw [HBZ.out]; go_num, HR2⟩, by simp [intOf]; omega⟩
        obtain rfl : n = sk.seats.length := by omega
        have t0 : decide ((sk.seats.length : Int) < (sk.seats.length : Int)) = false := by simp
        obtain ⟨bQ, oQ, A0, c0, hQ, hbQ, hqc, hql⟩ := HKp.out.isMd.listIn hsq
        have m6 := HSp.out.cell 6 (.slice Fk.Q sk.qs.length Fk.qc) rfl
        rw [hQ] at m6
        have hs0 : (0 : Int) ≤ (secOf sk i : Int) := by omega
        have hs1 : (secOf sk i : Int) < (sk.qs.length : Int) := by omega
        have hcq := hql.cap
        have HQL := Lib.hid hql
        have HTF := Lib.hid (tick_due HTI.out HDUE.out)
        clear hQ hql HTI HBS TT HCB
        obtain ⟨cq, hcq9⟩ : ∃ cq, (dueTo (nowM sk now) sk.seats.length).countP (aheadB (nowM sk now) i) = cq := ⟨_, rfl⟩
        rw [hcq9] at HTF hcb ⊢
        clear hcq9
        have HTG := HTF.out
        clear HTF
        rcases HTG with ⟨hle, hy⟩ | ⟨hlt2, hst, how, htl, hdl⟩
        case inl => as_aux_lemma =>
          have t1 : decide (((listAt sk (secOf sk i)).length : Int) ≤ (cq : Int)) = true := decide_eq_true (by omega)
          have t1' : decide ((listAt sk (secOf sk i)).length ≤ cq) = true := decide_eq_true hle
          have hh := HHp.out
          rw [hy] at hh
          have y0 := hh.cell 0 (.int .i64 0) rfl
          have y1 := hh.cell 1 (.int .u32 0) rfl
          have y2 := hh.cell 2 (.int .i64 0) rfl
          have y3 := hh.cell 3 (.int .u64 (seatAt sk i).serial) rfl
          have y4 := hh.cell 4 (.int .u64 (seatAt sk i).epoch) rfl
          have zh := hh.lt
          have x3 := HGp.out.cell 3 (.int .u64 (seatAt sk i).serial) rfl
          have x4 := HGp.out.cell 4 (.int .u64 (seatAt sk i).epoch) rfl
          have zg := HGp.out.lt
          clear hle hy hh
          go_wp2_with fail
          exact ⟨⟨i + 1, by omega, by go_num, HPp⟩, by simp [intOf]; omega⟩
        case inr => as_aux_lemma =>
          have t1 : decide (((listAt sk (secOf sk i)).length : Int) ≤ (cq : Int)) = false := decide_eq_false (by omega)
          have t1' : decide ((listAt sk (secOf sk i)).length ≤ cq) = false := decide_eq_false (by omega)
          obtain ⟨bq, oq, hA0, hbq, hqv, _⟩ := HQL.out.atU hlt2
          have y0 := HHp.out.cell 0 (.int .i64 (seatAt s' i).state) rfl
          have y1 := HHp.out.cell 1 (.int .u32 (seatAt s' i).owner) rfl
          have y2 := HHp.out.cell 2 (.int .i64 (seatAt s' i).till) rfl
          rw [hst] at y0
          rw [how] at y1
          have zh := HHp.out.lt
          have v1 := KVp.out.cell 1 _ rfl
          have zv := KVp.out.lt
          rw [hA0] at hqc
          have httl := congrArg Ve.ttl HX.out
          rw [httl] at hdl
          have hn0 : 0 ≤ now := by have := OKk.out.now; have := HLE.out; omega
          have hyb : (seatAt s' i).till ≤ 9223372036854775807 := by
            obtain ⟨_, _, _, _, _, hx⟩ := HNp.out.isMd.seatIn (i := i) (by omega)
            exact hx.2.2.1.2
          have hW : IntKind.i64.wrap ((seatAt s' i).till - now) = (seatAt s' i).till - now := IntWalk.i64_in _ (by omega)
          have t4 : decide ((seatAt s' i).till < now) = false := decide_eq_false (by omega)
          have t5 : decide (x.ttl < (seatAt s' i).till - now) = false := decide_eq_false (by omega)
          have hc0 : (0 : Int) ≤ (cq : Int) := by omega
          have hc1 : (cq : Int) < ((listAt sk (secOf sk i)).length : Int) := by omega
          clear hst how htl hdl hA0 httl hyb
          generalize (listAt sk (secOf sk i))[cq] = ow at y1 hqv
          generalize (seatAt s' i).till = D at *
          go_upto_region 33 with fail
          go_quiet (fail)
          go_wp2_with fail
          exact ⟨⟨i + 1, by omega, by go_num, Lib.hid (bdN HPp.out _)⟩, by simp [intOf]; omega⟩
end Go.Proofs.YtinbjfkkpcpokaaGreatDoor
