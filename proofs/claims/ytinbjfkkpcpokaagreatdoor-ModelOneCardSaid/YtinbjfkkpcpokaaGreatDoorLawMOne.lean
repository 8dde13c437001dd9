/-
  Walk of the law ModelOne. Conditions: the pinned table lies where it was laid.
-/
import Derived.Test.YtinbjfkkpcpokaaGreatDoorLmI
namespace Go.Proofs.YtinbjfkkpcpokaaGreatDoor
open Go.RowKit

set_option maxRecDepth 20000 in
set_option maxHeartbeats 16000000 in
theorem lawMOne_any {w : World} {V : Option Addr} {vc : Nat} {x : Ve} (hv : Sl secR w (.slice V x.secs.length vc) x.secs) (hb1 : Bd x.shards) (hb2 : Bd x.ttl) (hb3 : Bd x.session) {A : Option Addr} {c : Nat} {ops : List MOp} (ho : Sl opR w (.slice A ops.length c) ops) (hu : UsesAt w) :
    Calls Tryz.prog 9 #[.agg #[.int .i64 x.shards, .int .i64 x.ttl, .int .i64 x.session, .slice V x.secs.length vc], .slice A ops.length c] w fun e w' => e = .returned (.bool true) ∧ Below w.heap.size w w' := by
  have hcap := ho.cap
  have HO := Lib.hid ho
  have HU := Lib.hid hu
  have HV := Lib.hid hv
  have CW := Lib.hid (fun W (hb : Below w.heap.size w W) => wide_any (hv.up hb))
  have CN := Lib.hid (fun W (hb : Below w.heap.size w W) => new_any (hv.up hb) hb1 hb2 hb3)
  have HOK := Lib.hid (@newM_ok x)
  have HVE := Lib.hid (@newM_ve x)
  have HBT := Lib.hid hb2
  clear hv ho hu
  unfold NewPost at CN
  generalize newM x = M at CN HOK HVE
  obtain ⟨s, E⟩ := M
  go_enter Tryz.func9, Tryz.ntmps9
  go_upto_region 1 with fail
  refine at_world (fun X => Below w.heap.size w X ∧ BoxN X w.heap.size 25 #[.int .i64 x.shards, .int .i64 x.ttl, .int .i64 x.session, .slice V x.secs.length vc]) ⟨ba _ _, BoxN.new _ _ _⟩ fun w0 hw0 => ?_
  have B0 := Lib.hid hw0.1
  have K0 := Lib.hid hw0.2
  clear hw0
  have a0 := K0.out.cell 0 _ rfl
  have a1 := K0.out.cell 1 _ rfl
  have a2 := K0.out.cell 2 _ rfl
  have a3 := K0.out.cell 3 _ rfl
  have z0 := K0.out.lt
  go_wp2_with fail
  refine (CW.out _ B0.out).mono ?_
  rintro e w1 ⟨b, rfl, hb⟩
  have B1 := Lib.hid (B0.out.trans (hb.mono B0.out.size))
  have K1 := Lib.hid (K0.out.later hb)
  clear hb a0 a1 a2 a3 z0 B0 K0 CW
  have a0 := K1.out.cell 0 _ rfl
  have a1 := K1.out.cell 1 _ rfl
  have a2 := K1.out.cell 2 _ rfl
  have a3 := K1.out.cell 3 _ rfl
  have z0 := K1.out.lt
  cases b
  case true =>
    go_wp2_with fail
    refine (shown_any _ (HU.out.up B1.out HU.out.1)).mono ?_
    rintro e w9 ⟨rfl, hb9⟩
    go_wp2_with fail
    go_ret
    exact ⟨rfl, B1.out.trans (hb9.mono B1.out.size)⟩
  by_cases h40 : 30 < ops.length
  · have t40 : decide ((30 : Int) < (ops.length : Int)) = true := decide_eq_true (by omega)
    go_wp2_with fail
    refine (shown_any _ (HU.out.up B1.out HU.out.1)).mono ?_
    rintro e w9 ⟨rfl, hb9⟩
    go_wp2_with fail
    go_ret
    exact ⟨rfl, B1.out.trans (hb9.mono B1.out.size)⟩
  have t40 : decide ((30 : Int) < (ops.length : Int)) = false := decide_eq_false (by omega)
  go_wp2_with fail
  refine (CN.out _ B1.out).mono ?_
  rintro e w2 ⟨F, rfl, hb, hI⟩
  have B2 := Lib.hid (B1.out.trans (hb.mono B1.out.size))
  have HI2 := Lib.hid hI
  have KV2 := Lib.hid (K1.out.later hb)
  clear hb hI a0 a1 a2 a3 z0 CN K1
  have S7A := Lib.hid (show (Tryz.prog.info? 29).map (·.size) = some (mdCells F s).toArray.size by kernel_rfl)
  have O7 := Lib.hid (show (mdCells F s).toArray.all (·.oneCell') = true by simp [mdCells, Value.oneCell'])
  have L7 := Lib.hid (show (mdCells F s).toArray.size = 7 by rfl)
  have MV := Lib.hid (show mdV F s = .agg (mdCells F s).toArray from rfl)
  simp only
  rw [MV.out]
  go_upto_region 4 with (refine wpList_store_row rfl 29 (.tmp 5) (.tmp 28) rfl w2.heap.size (mdCells F s).toArray rfl rfl 29 _ (BoxN.new _ _ _) S7A.out L7.out.symm O7.out ?_)
  obtain ⟨q, hq⟩ : ∃ q, w2.heap.size = q := ⟨_, rfl⟩
  rw [hq]
  have hbn : BoxN (w2.alloc (.cells #[.int .i64 0, .int .i64 0, .int .i64 0, .slice none 0 0, .int .i64 0, .slice none 0 0, .slice none 0 0] 29)) q 29 #[.int .i64 0, .int .i64 0, .int .i64 0, .slice none 0 0, .int .i64 0, .slice none 0 0, .slice none 0 0] := hq ▸ BoxN.new w2 29 #[.int .i64 0, .int .i64 0, .int .i64 0, .slice none 0 0, .int .i64 0, .slice none 0 0, .slice none 0 0]
  have hrow := grownBy_setRow hbn (mdCells F s).toArray
  refine at_world (fun X => Below w2.heap.size w2 X ∧ BoxN X q 29 (mdCells F s).toArray) ⟨(ba w2 (.cells #[.int .i64 0, .int .i64 0, .int .i64 0, .slice none 0 0, .int .i64 0, .slice none 0 0, .slice none 0 0] 29)).grown hrow.1 (by simp) (fun k hk => by injection hk with hk; omega), hrow.2⟩ fun w3 hw3 => ?_
  have B3 := Lib.hid (B2.out.trans (hw3.1.mono B2.out.size))
  have HK3 := Lib.hid (MdKeep.first HI2.out hw3.1)
  have K3 := Lib.hid hw3.2
  have KV3 := Lib.hid (KV2.out.later hw3.1)
  have hlq : w2.heap.size ≤ q := by omega
  have hwq : w.heap.size ≤ q := by have := B2.out.size; omega
  have hvq : w.heap.size < q := by have := KV2.out.lt; omega
  obtain ⟨lo, hlow⟩ : ∃ lo, w2.heap.size = lo := ⟨_, rfl⟩
  rw [hlow] at HK3 hlq
  have hvl : w.heap.size < lo := by have := KV2.out.lt; omega
  clear hbn hrow hw3 HI2 S7A O7 L7 MV hq B2 hlow KV2
  clear HV HBT HVE KV3
  go_wp2_with fail
  go_loopw [7, 8, 9] (fun va vg i wr => ∃ (k : Nat) (Fk : MFrm) (als : List Tk) (G : List Bool), k ≤ ops.length ∧ i = .int .i64 (k : Int) ∧ Hid (Below w.heap.size w wr) ∧ Hid (BoxN wr q 29 (mdCells Fk (stAt s ops k)).toArray) ∧ Hid (MdKeep lo wr Fk (stAt s ops k)) ∧ Hid (Own tkR 54 lo wr va als) ∧ Hid (Own boR 4 lo wr vg G) ∧ Hid (als.length ≤ k ∧ Held1 (stAt s ops k) als ∧ MixTo (stAt s ops k) als G als.length)) (fun _ _ i _ => ops.length - (intOf i).toNat)
  case atStart => exact ⟨0, F, [], [], by omega, rfl, B3, K3, HK3, Lib.hid (Own.nil _ _ _ _), Lib.hid (Own.nil _ _ _ _), Lib.hid ⟨Nat.le_refl _, Held1.nil _, MixTo.nil _⟩⟩
  case round =>
    obtain ⟨k, Fk, als, G, hk, rfl, HB, HS, HK, HA, HG, HM⟩ := hrel
    rename World => wq
    have hloW : lo ≤ wq.heap.size := by have := HS.out.lt; omega
    by_cases hlt : k < ops.length
    case neg =>
      obtain rfl : k = ops.length := by omega
      have t0 : decide ((ops.length : Int) < (ops.length : Int)) = false := by simp
      go_wp2_with fail
      refine (shown_any _ (HU.out.up HB.out HU.out.1)).mono ?_
      rintro e w9 ⟨rfl, hb9⟩
      go_wp2_with fail
      go_ret
      exact ⟨rfl, HB.out.trans (hb9.mono HB.out.size)⟩
    have t0 : decide ((k : Int) < (ops.length : Int)) = true := decide_eq_true (by omega)
    by_cases hE : E = 0
    case neg =>
      have t1 : (E == 0) = false := by simpa using hE
      go_wp2_with fail
      refine (shown_any _ (HU.out.up HB.out HU.out.1)).mono ?_
      rintro e w9 ⟨rfl, hb9⟩
      go_wp2_with fail
      go_ret
      exact ⟨rfl, HB.out.trans (hb9.mono HB.out.size)⟩
    have OK := Lib.hid (HOK.out hE)
    subst hE
    obtain ⟨A7, c7, rfl, hc7, hm7, hA⟩ := HA.out.form
    obtain ⟨A8, c8, rfl, hc8, hm8, hG⟩ := HG.out.form
    have HA := Lib.hid hA
    have HG := Lib.hid hG
    clear hA hG
    have OKk := Lib.hid (show MdOk (stAt s ops k) from runTo_ok OK.out _)
    have HNX := Lib.hid (stAt_succ s hlt)
    have hk0 : (0 : Int) ≤ (k : Int) := by omega
    have hk1 : (k : Int) < (ops.length : Int) := by omega
    obtain ⟨bl, off, os, rfl, hbl, ⟨hos, hoo⟩, hat⟩ := (HO.out.up HB.out).at_ hlt
    have HAT := Lib.hid (show wq.rangeAt bl (off + k * 12) os from hat)
    have HOO := Lib.hid hoo
    clear hat hoo
    have HAL := Lib.hid HM.out.1
    have HMX := Lib.hid (MixTo.more HM.out.2.1 HM.out.2.2 ops[k])
    have HHM := Lib.hid (show Held1 (doM (stAt s ops k) ops[k]).1 (if (doM (stAt s ops k) ops[k]).2.2 = 0 ∧ (doM (stAt s ops k) ops[k]).2.1.tk ≠ noTk then als ++ [(doM (stAt s ops k) ops[k]).2.1.tk] else als) from HM.out.2.1.more ops[k])
    have HTK := Lib.hid (fun W F' (h : IsMd W F' (doM (stAt s ops k) ops[k]).1) => tk_ok h OKk.out)
    have CD := Lib.hid (fun W (hb : Below wq.heap.size wq W) => mDo_any lo Fk (stAt s ops k) ops[k] W (HK.out.up (Loose.of hb)) (Nat.le_trans hloW hb.size) (md_small OKk.out) HOO.out (HU.out.up (HB.out.trans (hb.mono HB.out.size)) HU.out.1))
    unfold MDoPost at CD
    rw [mdoM_ok OKk.out, ← hos] at CD
    have OKn := Lib.hid (OKk.out.do_ ops[k])
    have S2 := Lib.hid (show (Tryz.prog.info? 60).map (·.size) = some os.length by rw [hos]; kernel_rfl)
    clear HM
    generalize hop : ops[k] = op at CD HMX HHM HTK HNX OKn hos
    generalize doM (stAt s ops k) op = N at CD HMX HHM HTK HNX OKn
    obtain ⟨s', r, f⟩ := N
    simp only at CD HMX HHM HTK HNX OKn
    have HNS := Lib.hid (show stAt s ops (k + 1) = s' from HNX.out)
    generalize stAt s ops k = sk at HS HK OKk CD
    have MVk := Lib.hid (show mdV Fk sk = .agg (mdCells Fk sk).toArray from rfl)
    have S7 := Lib.hid (show (Tryz.prog.info? 29).map (·.size) = some (mdCells Fk sk).length by kernel_rfl)
    rw [MVk.out] at CD
    obtain ⟨ms, hms⟩ : ∃ ms : List Value, ms = mdCells Fk sk := ⟨_, rfl⟩
    have LM := Lib.hid (show ms.toArray.size = 7 by rw [hms]; rfl)
    rw [← hms] at CD S7 HS
    clear hms hos hop HOO HNX MVk
    have hqw := HS.out.lt
    go_upto_region 9 with fail
    go_cut [10, 11, 12] from 30 to 157 (fun v10 v11 v12 W => ∃ b8 b9 F', v10 = .pointer (some ⟨b8, 0, none⟩) ∧ v11 = .pointer (some ⟨b9, 0, none⟩) ∧ v12 = .int .i64 f ∧ Below wq.heap.size wq W ∧ MdKeep lo W F' s' ∧ BoxN W b8 29 (mdCells F' s').toArray ∧ wq.heap.size ≤ b8 ∧ BoxN W b9 56 (rpCells r).toArray ∧ wq.heap.size ≤ b9)
    case first => as_aux_lemma =>
      refine wp_region_held (S := fun X => Below wq.heap.size wq X) (by kernel_rfl) ?_
      have HS0 : Below wq.heap.size wq wq.drew := bdd (Below.refl _ _)
      refine wpAnyH_take (i := 0) rfl (by decide +kernel) (by decide +kernel) (by decide +kernel) (fun _ _ _ h => h) (yieldsIf_load_mid rfl 29 (.tmp 5) rfl (q) (0) rfl (ms) _ (fun X hX => (HS.out.later hX).range2) Tryz.underlying29 rfl (S7.out)) HS0 ?_
      refine wpAnyH_take (i := 1) (v := .slice (some ⟨bl, off, none⟩) ops.length c) rfl (by decide +kernel) (by decide +kernel) (by decide +kernel) (fun _ _ _ h => h) (.inl ⟨rfl, fun W hS => by go_simp⟩) HS0 ?_
      refine wpAnyH_take (i := 2) (v := .int .i64 (k : Int)) rfl (by decide +kernel) (by decide +kernel) (by decide +kernel) (fun _ _ _ h => h) (.inl ⟨rfl, fun W hS => by go_simp⟩) HS0 ?_
      refine wpAnyH_take (i := 3) (v := .pointer (some ⟨bl, off + k * 12, none⟩)) rfl (by decide +kernel) (by decide +kernel) (by decide +kernel) (fun _ _ _ h => h) (.inl ⟨rfl, fun W hS => by go_simp⟩) HS0 ?_
      refine wpAnyH_take (i := 4) rfl (by decide +kernel) (by decide +kernel) (by decide +kernel) (fun _ _ _ h => h) (yieldsIf_load_mid rfl 60 (.tmp 44) rfl (bl) (off + k * 12) rfl (os) _ (fun X hX => range_later hX HAT.out) Tryz.underlying60 rfl (S2.out)) HS0 ?_
      refine wpAnyH_all (rs := [5, 10, 11]) (by kernel_rfl) (by simp) fun j hj => ?_
      simp only [List.mem_cons, List.not_mem_nil, or_false] at hj
      rcases hj with rfl | rfl | rfl
      · refine heldOp rfl fun K hK => ?_
        go_wp2_with fail
        refine (CD.out wq.drew HS0).mono ?_
        rintro e y ⟨F', rfl, hb, hk⟩
        have HF := Lib.hid (show MdKeep lo y F' s' from hk)
        clear hk
        have V9 := Lib.hid (show mdV F' s' = .agg (mdCells F' s').toArray from rfl)
        have V8 := Lib.hid (show RpV r = .agg (rpCells r).toArray from rfl)
        rw [V9.out, V8.out]
        obtain ⟨hs, hhs⟩ : ∃ hs : List Value, hs = mdCells F' s' := ⟨_, rfl⟩
        obtain ⟨rs, hrs⟩ : ∃ rs : List Value, rs = rpCells r := ⟨_, rfl⟩
        rw [← hhs, ← hrs]
        have HHS := Lib.hid hhs
        have HRS := Lib.hid hrs
        have S9A := Lib.hid (show (Tryz.prog.info? 29).map (·.size) = some hs.toArray.size by rw [hhs]; kernel_rfl)
        have L9 := Lib.hid (show hs.toArray.size = 7 by rw [hhs]; rfl)
        have O9 := Lib.hid (show hs.toArray.all (·.oneCell') = true by rw [hhs]; simp [mdCells, Value.oneCell'])
        have S8A := Lib.hid (show (Tryz.prog.info? 56).map (·.size) = some rs.toArray.size by rw [hrs]; kernel_rfl)
        have L8 := Lib.hid (show rs.toArray.size = 9 by rw [hrs]; rfl)
        have O8 := Lib.hid (show rs.toArray.all (·.oneCell') = true by rw [hrs]; simp [rpCells, Value.oneCell'])
        clear hhs hrs V9 V8
        go_wp2_with fail
        refine at_world (fun X => (Below wq.heap.size wq X) ∧ (MdKeep lo X F' s')) ⟨HS0.trans (hb.mono HS0.size), HF.out⟩ fun x1 hx1 => ?_
        have S1 := Lib.hid (hx1.1)
        have KK1 := Lib.hid (hx1.2)
        clear hx1
        clear hb HF
        refine hK.out _ _ ⟨S1.out, ?_⟩
        clear hK K
        refine wpAnyH_take (i := 6) (v := .tuple #[.agg hs.toArray, .agg rs.toArray, .int .i64 f]) rfl (by decide +kernel) (by decide +kernel) (by decide +kernel) (fun _ _ _ h => h) (.inl ⟨rfl, fun W hS => by go_simp⟩) S1.out ?_
        refine wpAnyH_take (i := 7) (v := .agg hs.toArray) rfl (by decide +kernel) (by decide +kernel) (by decide +kernel) (fun _ _ _ h => h) (.inl ⟨rfl, fun W hS => by go_simp⟩) S1.out ?_
        refine wpAnyH_take (i := 8) (v := .agg rs.toArray) rfl (by decide +kernel) (by decide +kernel) (by decide +kernel) (fun _ _ _ h => h) (.inl ⟨rfl, fun W hS => by go_simp⟩) S1.out ?_
        refine wpAnyH_take (i := 9) (v := .int .i64 f) rfl (by decide +kernel) (by decide +kernel) (by decide +kernel) (fun _ _ _ h => h) (.inl ⟨rfl, fun W hS => by go_simp⟩) S1.out ?_
        refine wpAnyH_all (rs := [10, 11]) (by kernel_rfl) (by simp) fun j hj => ?_
        simp only [List.mem_cons, List.not_mem_nil, or_false] at hj
        rcases hj with rfl | rfl
        · refine heldOp rfl fun K hK => ?_
          go_wp2_with fail
          obtain ⟨b8, hq8⟩ : ∃ q, x1.heap.size = q := ⟨_, rfl⟩
          try rw [hq8]
          refine at_world (fun X => (Below wq.heap.size wq X) ∧ (MdKeep lo X F' s') ∧ (BoxN X b8 29 #[.int .i64 0, .int .i64 0, .int .i64 0, .slice none 0 0, .int .i64 0, .slice none 0 0, .slice none 0 0] ∧ wq.heap.size ≤ b8)) ⟨S1.out.trans ((ba x1 (.cells #[.int .i64 0, .int .i64 0, .int .i64 0, .slice none 0 0, .int .i64 0, .slice none 0 0, .slice none 0 0] 29)).mono S1.out.size), KK1.out.up (Loose.of (ba x1 (.cells #[.int .i64 0, .int .i64 0, .int .i64 0, .slice none 0 0, .int .i64 0, .slice none 0 0, .slice none 0 0] 29))), ⟨(by rw [← hq8]; exact BoxN.new _ _ _), (by rw [← hq8]; exact S1.out.size)⟩⟩ fun x2 hx2 => ?_
          have S2 := Lib.hid (hx2.1)
          have KK2 := Lib.hid (hx2.2.1)
          have B82 := Lib.hid (hx2.2.2)
          clear hx2
          clear hq8
          clear S1 KK1
          refine hK.out _ _ ⟨S2.out, ?_⟩
          clear hK K
          refine wpAnyH_all (rs := [11]) (by kernel_rfl) (by simp) fun j hj => ?_
          obtain rfl : j = 11 := by simpa using hj
          clear hj
          refine heldOp rfl fun K hK => ?_
          go_wp2_with fail
          obtain ⟨b9, hq9⟩ : ∃ q, x2.heap.size = q := ⟨_, rfl⟩
          try rw [hq9]
          refine at_world (fun X => (Below wq.heap.size wq X) ∧ (MdKeep lo X F' s') ∧ (BoxN X b8 29 #[.int .i64 0, .int .i64 0, .int .i64 0, .slice none 0 0, .int .i64 0, .slice none 0 0, .slice none 0 0] ∧ wq.heap.size ≤ b8) ∧ (BoxN X b9 56 #[.int .i64 0, .int .i64 0, .int .i64 0, .int .i64 0, .int .u32 0, .int .u32 0, .int .u64 0, .int .u64 0, .int .i64 0] ∧ wq.heap.size ≤ b9) ∧ (b8 ≠ b9)) ⟨S2.out.trans ((ba x2 (.cells #[.int .i64 0, .int .i64 0, .int .i64 0, .int .i64 0, .int .u32 0, .int .u32 0, .int .u64 0, .int .u64 0, .int .i64 0] 56)).mono S2.out.size), KK2.out.up (Loose.of (ba x2 (.cells #[.int .i64 0, .int .i64 0, .int .i64 0, .int .i64 0, .int .u32 0, .int .u32 0, .int .u64 0, .int .u64 0, .int .i64 0] 56))), ⟨B82.out.1.alloc _, B82.out.2⟩, ⟨(by rw [← hq9]; exact BoxN.new _ _ _), (by rw [← hq9]; exact S2.out.size)⟩, (by have := B82.out.1.lt; omega)⟩ fun x3 hx3 => ?_
          have S3 := Lib.hid (hx3.1)
          have KK3 := Lib.hid (hx3.2.1)
          have B83 := Lib.hid (hx3.2.2.1)
          have B93 := Lib.hid (hx3.2.2.2.1)
          have N893 := Lib.hid (hx3.2.2.2.2)
          clear hx3
          clear hq9
          clear S2 KK2 B82
          refine hK.out _ _ ⟨S3.out, ?_⟩
          clear hK K
          refine wpAnyH_all (rs := [12]) (by kernel_rfl) (by simp) fun j hj => ?_
          obtain rfl : j = 12 := by simpa using hj
          clear hj
          refine heldOp rfl fun K hK => ?_
          go_wp2_with (refine wpList_store_row rfl 29 (.tmp 10) (.tmp 47) rfl b8 hs.toArray rfl rfl 29 _ B83.out.1 S9A.out L9.out.symm O9.out ?_)
          have hrow := grownBy_setRow B83.out.1 (hs.toArray)
          have htag := Tag.of_box B83.out.1
          have hle := B83.out.2
          refine at_world (fun X => (Below wq.heap.size wq X) ∧ (MdKeep lo X F' s') ∧ (BoxN X b8 29 hs.toArray ∧ wq.heap.size ≤ b8) ∧ (BoxN X b9 56 #[.int .i64 0, .int .i64 0, .int .i64 0, .int .i64 0, .int .u32 0, .int .u32 0, .int .u64 0, .int .u64 0, .int .i64 0] ∧ wq.heap.size ≤ b9) ∧ (b8 ≠ b9)) ⟨S3.out.grown hrow.1 S3.out.size (fun k hk => by injection hk with hk; omega), KK3.out.up (Loose.grown hrow.1 htag (by omega) (by decide) (by decide) (by decide)), ⟨hrow.2, hle⟩, ⟨B93.out.1.kept hrow.1 (fun e => N893.out.symm (by injection e)), B93.out.2⟩, N893.out⟩ fun x4 hx4 => ?_
          have S4 := Lib.hid (hx4.1)
          have KK4 := Lib.hid (hx4.2.1)
          have B84 := Lib.hid (hx4.2.2.1)
          have B94 := Lib.hid (hx4.2.2.2.1)
          have N894 := Lib.hid (hx4.2.2.2.2)
          clear hx4
          clear hrow htag hle
          clear S3 KK3 B83 B93 N893
          refine hK.out _ _ ⟨S4.out, ?_⟩
          clear hK K
          refine wpAnyH_all (rs := [13]) (by kernel_rfl) (by simp) fun j hj => ?_
          obtain rfl : j = 13 := by simpa using hj
          clear hj
          refine heldOp rfl fun K hK => ?_
          go_wp2_with (refine wpList_store_row rfl 56 (.tmp 11) (.tmp 48) rfl b9 rs.toArray rfl rfl 56 _ B94.out.1 S8A.out L8.out.symm O8.out ?_)
          have hrow := grownBy_setRow B94.out.1 (rs.toArray)
          have htag := Tag.of_box B94.out.1
          have hle := B94.out.2
          refine at_world (fun X => (Below wq.heap.size wq X) ∧ (MdKeep lo X F' s') ∧ (BoxN X b8 29 hs.toArray ∧ wq.heap.size ≤ b8) ∧ (BoxN X b9 56 rs.toArray ∧ wq.heap.size ≤ b9) ∧ (b8 ≠ b9)) ⟨S4.out.grown hrow.1 S4.out.size (fun k hk => by injection hk with hk; omega), KK4.out.up (Loose.grown hrow.1 htag (by omega) (by decide) (by decide) (by decide)), ⟨B84.out.1.kept hrow.1 (fun e => N894.out (by injection e)), B84.out.2⟩, ⟨hrow.2, hle⟩, N894.out⟩ fun x5 hx5 => ?_
          have S5 := Lib.hid (hx5.1)
          have KK5 := Lib.hid (hx5.2.1)
          have B85 := Lib.hid (hx5.2.2.1)
          have B95 := Lib.hid (hx5.2.2.2.1)
          have N895 := Lib.hid (hx5.2.2.2.2)
          clear hx5
          clear hrow htag hle
          clear S4 KK4 B84 B94 N894
          refine hK.out _ _ ⟨S5.out, ?_⟩
          clear hK K
          refine wpAnyH_take (i := 14) (v := .int .i64 f) rfl (by decide +kernel) (by decide +kernel) (by decide +kernel) (fun _ _ _ h => h) (.inl ⟨rfl, fun W hS => by go_simp⟩) S5.out ?_
          refine wpAnyH_done (by kernel_rfl) ?_ _
          go_wp2_with fail
          go_meet
          exact ⟨_, _, F', rfl, rfl, rfl, S5.out, KK5.out, by rw [← HHS.out]; exact B85.out.1, B85.out.2, by rw [← HRS.out]; exact B95.out.1, B95.out.2⟩
        · refine heldOp rfl fun K hK => ?_
          go_wp2_with fail
          obtain ⟨b9, hq9⟩ : ∃ q, x1.heap.size = q := ⟨_, rfl⟩
          try rw [hq9]
          refine at_world (fun X => (Below wq.heap.size wq X) ∧ (MdKeep lo X F' s') ∧ (BoxN X b9 56 #[.int .i64 0, .int .i64 0, .int .i64 0, .int .i64 0, .int .u32 0, .int .u32 0, .int .u64 0, .int .u64 0, .int .i64 0] ∧ wq.heap.size ≤ b9)) ⟨S1.out.trans ((ba x1 (.cells #[.int .i64 0, .int .i64 0, .int .i64 0, .int .i64 0, .int .u32 0, .int .u32 0, .int .u64 0, .int .u64 0, .int .i64 0] 56)).mono S1.out.size), KK1.out.up (Loose.of (ba x1 (.cells #[.int .i64 0, .int .i64 0, .int .i64 0, .int .i64 0, .int .u32 0, .int .u32 0, .int .u64 0, .int .u64 0, .int .i64 0] 56))), ⟨(by rw [← hq9]; exact BoxN.new _ _ _), (by rw [← hq9]; exact S1.out.size)⟩⟩ fun x2 hx2 => ?_
          have S2 := Lib.hid (hx2.1)
          have KK2 := Lib.hid (hx2.2.1)
          have B92 := Lib.hid (hx2.2.2)
          clear hx2
          clear hq9
          clear S1 KK1
          refine hK.out _ _ ⟨S2.out, ?_⟩
          clear hK K
          refine wpAnyH_all (rs := [10]) (by kernel_rfl) (by simp) fun j hj => ?_
          obtain rfl : j = 10 := by simpa using hj
          clear hj
          refine heldOp rfl fun K hK => ?_
          go_wp2_with fail
          obtain ⟨b8, hq8⟩ : ∃ q, x2.heap.size = q := ⟨_, rfl⟩
          try rw [hq8]
          refine at_world (fun X => (Below wq.heap.size wq X) ∧ (MdKeep lo X F' s') ∧ (BoxN X b8 29 #[.int .i64 0, .int .i64 0, .int .i64 0, .slice none 0 0, .int .i64 0, .slice none 0 0, .slice none 0 0] ∧ wq.heap.size ≤ b8) ∧ (BoxN X b9 56 #[.int .i64 0, .int .i64 0, .int .i64 0, .int .i64 0, .int .u32 0, .int .u32 0, .int .u64 0, .int .u64 0, .int .i64 0] ∧ wq.heap.size ≤ b9) ∧ (b8 ≠ b9)) ⟨S2.out.trans ((ba x2 (.cells #[.int .i64 0, .int .i64 0, .int .i64 0, .slice none 0 0, .int .i64 0, .slice none 0 0, .slice none 0 0] 29)).mono S2.out.size), KK2.out.up (Loose.of (ba x2 (.cells #[.int .i64 0, .int .i64 0, .int .i64 0, .slice none 0 0, .int .i64 0, .slice none 0 0, .slice none 0 0] 29))), ⟨(by rw [← hq8]; exact BoxN.new _ _ _), (by rw [← hq8]; exact S2.out.size)⟩, ⟨B92.out.1.alloc _, B92.out.2⟩, (by have := B92.out.1.lt; omega)⟩ fun x3 hx3 => ?_
          have S3 := Lib.hid (hx3.1)
          have KK3 := Lib.hid (hx3.2.1)
          have B83 := Lib.hid (hx3.2.2.1)
          have B93 := Lib.hid (hx3.2.2.2.1)
          have N893 := Lib.hid (hx3.2.2.2.2)
          clear hx3
          clear hq8
          clear S2 KK2 B92
          refine hK.out _ _ ⟨S3.out, ?_⟩
          clear hK K
          refine wpAnyH_all (rs := [12]) (by kernel_rfl) (by simp) fun j hj => ?_
          obtain rfl : j = 12 := by simpa using hj
          clear hj
          refine heldOp rfl fun K hK => ?_
          go_wp2_with (refine wpList_store_row rfl 29 (.tmp 10) (.tmp 47) rfl b8 hs.toArray rfl rfl 29 _ B83.out.1 S9A.out L9.out.symm O9.out ?_)
          have hrow := grownBy_setRow B83.out.1 (hs.toArray)
          have htag := Tag.of_box B83.out.1
          have hle := B83.out.2
          refine at_world (fun X => (Below wq.heap.size wq X) ∧ (MdKeep lo X F' s') ∧ (BoxN X b8 29 hs.toArray ∧ wq.heap.size ≤ b8) ∧ (BoxN X b9 56 #[.int .i64 0, .int .i64 0, .int .i64 0, .int .i64 0, .int .u32 0, .int .u32 0, .int .u64 0, .int .u64 0, .int .i64 0] ∧ wq.heap.size ≤ b9) ∧ (b8 ≠ b9)) ⟨S3.out.grown hrow.1 S3.out.size (fun k hk => by injection hk with hk; omega), KK3.out.up (Loose.grown hrow.1 htag (by omega) (by decide) (by decide) (by decide)), ⟨hrow.2, hle⟩, ⟨B93.out.1.kept hrow.1 (fun e => N893.out.symm (by injection e)), B93.out.2⟩, N893.out⟩ fun x4 hx4 => ?_
          have S4 := Lib.hid (hx4.1)
          have KK4 := Lib.hid (hx4.2.1)
          have B84 := Lib.hid (hx4.2.2.1)
          have B94 := Lib.hid (hx4.2.2.2.1)
          have N894 := Lib.hid (hx4.2.2.2.2)
          clear hx4
          clear hrow htag hle
          clear S3 KK3 B83 B93 N893
          refine hK.out _ _ ⟨S4.out, ?_⟩
          clear hK K
          refine wpAnyH_all (rs := [13]) (by kernel_rfl) (by simp) fun j hj => ?_
          obtain rfl : j = 13 := by simpa using hj
          clear hj
          refine heldOp rfl fun K hK => ?_
          go_wp2_with (refine wpList_store_row rfl 56 (.tmp 11) (.tmp 48) rfl b9 rs.toArray rfl rfl 56 _ B94.out.1 S8A.out L8.out.symm O8.out ?_)
          have hrow := grownBy_setRow B94.out.1 (rs.toArray)
          have htag := Tag.of_box B94.out.1
          have hle := B94.out.2
          refine at_world (fun X => (Below wq.heap.size wq X) ∧ (MdKeep lo X F' s') ∧ (BoxN X b8 29 hs.toArray ∧ wq.heap.size ≤ b8) ∧ (BoxN X b9 56 rs.toArray ∧ wq.heap.size ≤ b9) ∧ (b8 ≠ b9)) ⟨S4.out.grown hrow.1 S4.out.size (fun k hk => by injection hk with hk; omega), KK4.out.up (Loose.grown hrow.1 htag (by omega) (by decide) (by decide) (by decide)), ⟨B84.out.1.kept hrow.1 (fun e => N894.out (by injection e)), B84.out.2⟩, ⟨hrow.2, hle⟩, N894.out⟩ fun x5 hx5 => ?_
          have S5 := Lib.hid (hx5.1)
          have KK5 := Lib.hid (hx5.2.1)
          have B85 := Lib.hid (hx5.2.2.1)
          have B95 := Lib.hid (hx5.2.2.2.1)
          have N895 := Lib.hid (hx5.2.2.2.2)
          clear hx5
          clear hrow htag hle
          clear S4 KK4 B84 B94 N894
          refine hK.out _ _ ⟨S5.out, ?_⟩
          clear hK K
          refine wpAnyH_take (i := 14) (v := .int .i64 f) rfl (by decide +kernel) (by decide +kernel) (by decide +kernel) (fun _ _ _ h => h) (.inl ⟨rfl, fun W hS => by go_simp⟩) S5.out ?_
          refine wpAnyH_done (by kernel_rfl) ?_ _
          go_wp2_with fail
          go_meet
          exact ⟨_, _, F', rfl, rfl, rfl, S5.out, KK5.out, by rw [← HHS.out]; exact B85.out.1, B85.out.2, by rw [← HRS.out]; exact B95.out.1, B95.out.2⟩
      · refine heldOp rfl fun K hK => ?_
        go_wp2_with fail
        obtain ⟨b8, hq8⟩ : ∃ q, wq.heap.size = q := ⟨_, rfl⟩
        try rw [hq8]
        refine at_world (fun X => (Below wq.heap.size wq X) ∧ (BoxN X b8 29 #[.int .i64 0, .int .i64 0, .int .i64 0, .slice none 0 0, .int .i64 0, .slice none 0 0, .slice none 0 0] ∧ wq.heap.size ≤ b8)) ⟨HS0.trans ((ba wq.drew (.cells #[.int .i64 0, .int .i64 0, .int .i64 0, .slice none 0 0, .int .i64 0, .slice none 0 0, .slice none 0 0] 29)).mono HS0.size), ⟨(by rw [← hq8]; exact BoxN.new _ _ _), (by rw [← hq8]; exact HS0.size)⟩⟩ fun x1 hx1 => ?_
        have S1 := Lib.hid (hx1.1)
        have B81 := Lib.hid (hx1.2)
        clear hx1
        clear hq8
        refine hK.out _ _ ⟨S1.out, ?_⟩
        clear hK K
        refine wpAnyH_all (rs := [5, 11]) (by kernel_rfl) (by simp) fun j hj => ?_
        simp only [List.mem_cons, List.not_mem_nil, or_false] at hj
        rcases hj with rfl | rfl
        · refine heldOp rfl fun K hK => ?_
          go_wp2_with fail
          refine (CD.out x1 S1.out).mono ?_
          rintro e y ⟨F', rfl, hb, hk⟩
          have HF := Lib.hid (show MdKeep lo y F' s' from hk)
          clear hk
          have V9 := Lib.hid (show mdV F' s' = .agg (mdCells F' s').toArray from rfl)
          have V8 := Lib.hid (show RpV r = .agg (rpCells r).toArray from rfl)
          rw [V9.out, V8.out]
          obtain ⟨hs, hhs⟩ : ∃ hs : List Value, hs = mdCells F' s' := ⟨_, rfl⟩
          obtain ⟨rs, hrs⟩ : ∃ rs : List Value, rs = rpCells r := ⟨_, rfl⟩
          rw [← hhs, ← hrs]
          have HHS := Lib.hid hhs
          have HRS := Lib.hid hrs
          have S9A := Lib.hid (show (Tryz.prog.info? 29).map (·.size) = some hs.toArray.size by rw [hhs]; kernel_rfl)
          have L9 := Lib.hid (show hs.toArray.size = 7 by rw [hhs]; rfl)
          have O9 := Lib.hid (show hs.toArray.all (·.oneCell') = true by rw [hhs]; simp [mdCells, Value.oneCell'])
          have S8A := Lib.hid (show (Tryz.prog.info? 56).map (·.size) = some rs.toArray.size by rw [hrs]; kernel_rfl)
          have L8 := Lib.hid (show rs.toArray.size = 9 by rw [hrs]; rfl)
          have O8 := Lib.hid (show rs.toArray.all (·.oneCell') = true by rw [hrs]; simp [rpCells, Value.oneCell'])
          clear hhs hrs V9 V8
          go_wp2_with fail
          refine at_world (fun X => (Below wq.heap.size wq X) ∧ (MdKeep lo X F' s') ∧ (BoxN X b8 29 #[.int .i64 0, .int .i64 0, .int .i64 0, .slice none 0 0, .int .i64 0, .slice none 0 0, .slice none 0 0] ∧ wq.heap.size ≤ b8)) ⟨S1.out.trans (hb.mono S1.out.size), HF.out, ⟨B81.out.1.later hb, B81.out.2⟩⟩ fun x2 hx2 => ?_
          have S2 := Lib.hid (hx2.1)
          have KK2 := Lib.hid (hx2.2.1)
          have B82 := Lib.hid (hx2.2.2)
          clear hx2
          clear hb HF
          clear S1 B81
          refine hK.out _ _ ⟨S2.out, ?_⟩
          clear hK K
          refine wpAnyH_take (i := 6) (v := .tuple #[.agg hs.toArray, .agg rs.toArray, .int .i64 f]) rfl (by decide +kernel) (by decide +kernel) (by decide +kernel) (fun _ _ _ h => h) (.inl ⟨rfl, fun W hS => by go_simp⟩) S2.out ?_
          refine wpAnyH_take (i := 7) (v := .agg hs.toArray) rfl (by decide +kernel) (by decide +kernel) (by decide +kernel) (fun _ _ _ h => h) (.inl ⟨rfl, fun W hS => by go_simp⟩) S2.out ?_
          refine wpAnyH_take (i := 8) (v := .agg rs.toArray) rfl (by decide +kernel) (by decide +kernel) (by decide +kernel) (fun _ _ _ h => h) (.inl ⟨rfl, fun W hS => by go_simp⟩) S2.out ?_
          refine wpAnyH_take (i := 9) (v := .int .i64 f) rfl (by decide +kernel) (by decide +kernel) (by decide +kernel) (fun _ _ _ h => h) (.inl ⟨rfl, fun W hS => by go_simp⟩) S2.out ?_
          refine wpAnyH_all (rs := [11]) (by kernel_rfl) (by simp) fun j hj => ?_
          obtain rfl : j = 11 := by simpa using hj
          clear hj
          refine heldOp rfl fun K hK => ?_
          go_wp2_with fail
          obtain ⟨b9, hq9⟩ : ∃ q, x2.heap.size = q := ⟨_, rfl⟩
          try rw [hq9]
          refine at_world (fun X => (Below wq.heap.size wq X) ∧ (MdKeep lo X F' s') ∧ (BoxN X b8 29 #[.int .i64 0, .int .i64 0, .int .i64 0, .slice none 0 0, .int .i64 0, .slice none 0 0, .slice none 0 0] ∧ wq.heap.size ≤ b8) ∧ (BoxN X b9 56 #[.int .i64 0, .int .i64 0, .int .i64 0, .int .i64 0, .int .u32 0, .int .u32 0, .int .u64 0, .int .u64 0, .int .i64 0] ∧ wq.heap.size ≤ b9) ∧ (b8 ≠ b9)) ⟨S2.out.trans ((ba x2 (.cells #[.int .i64 0, .int .i64 0, .int .i64 0, .int .i64 0, .int .u32 0, .int .u32 0, .int .u64 0, .int .u64 0, .int .i64 0] 56)).mono S2.out.size), KK2.out.up (Loose.of (ba x2 (.cells #[.int .i64 0, .int .i64 0, .int .i64 0, .int .i64 0, .int .u32 0, .int .u32 0, .int .u64 0, .int .u64 0, .int .i64 0] 56))), ⟨B82.out.1.alloc _, B82.out.2⟩, ⟨(by rw [← hq9]; exact BoxN.new _ _ _), (by rw [← hq9]; exact S2.out.size)⟩, (by have := B82.out.1.lt; omega)⟩ fun x3 hx3 => ?_
          have S3 := Lib.hid (hx3.1)
          have KK3 := Lib.hid (hx3.2.1)
          have B83 := Lib.hid (hx3.2.2.1)
          have B93 := Lib.hid (hx3.2.2.2.1)
          have N893 := Lib.hid (hx3.2.2.2.2)
          clear hx3
          clear hq9
          clear S2 KK2 B82
          refine hK.out _ _ ⟨S3.out, ?_⟩
          clear hK K
          refine wpAnyH_all (rs := [12]) (by kernel_rfl) (by simp) fun j hj => ?_
          obtain rfl : j = 12 := by simpa using hj
          clear hj
          refine heldOp rfl fun K hK => ?_
          go_wp2_with (refine wpList_store_row rfl 29 (.tmp 10) (.tmp 47) rfl b8 hs.toArray rfl rfl 29 _ B83.out.1 S9A.out L9.out.symm O9.out ?_)
          have hrow := grownBy_setRow B83.out.1 (hs.toArray)
          have htag := Tag.of_box B83.out.1
          have hle := B83.out.2
          refine at_world (fun X => (Below wq.heap.size wq X) ∧ (MdKeep lo X F' s') ∧ (BoxN X b8 29 hs.toArray ∧ wq.heap.size ≤ b8) ∧ (BoxN X b9 56 #[.int .i64 0, .int .i64 0, .int .i64 0, .int .i64 0, .int .u32 0, .int .u32 0, .int .u64 0, .int .u64 0, .int .i64 0] ∧ wq.heap.size ≤ b9) ∧ (b8 ≠ b9)) ⟨S3.out.grown hrow.1 S3.out.size (fun k hk => by injection hk with hk; omega), KK3.out.up (Loose.grown hrow.1 htag (by omega) (by decide) (by decide) (by decide)), ⟨hrow.2, hle⟩, ⟨B93.out.1.kept hrow.1 (fun e => N893.out.symm (by injection e)), B93.out.2⟩, N893.out⟩ fun x4 hx4 => ?_
          have S4 := Lib.hid (hx4.1)
          have KK4 := Lib.hid (hx4.2.1)
          have B84 := Lib.hid (hx4.2.2.1)
          have B94 := Lib.hid (hx4.2.2.2.1)
          have N894 := Lib.hid (hx4.2.2.2.2)
          clear hx4
          clear hrow htag hle
          clear S3 KK3 B83 B93 N893
          refine hK.out _ _ ⟨S4.out, ?_⟩
          clear hK K
          refine wpAnyH_all (rs := [13]) (by kernel_rfl) (by simp) fun j hj => ?_
          obtain rfl : j = 13 := by simpa using hj
          clear hj
          refine heldOp rfl fun K hK => ?_
          go_wp2_with (refine wpList_store_row rfl 56 (.tmp 11) (.tmp 48) rfl b9 rs.toArray rfl rfl 56 _ B94.out.1 S8A.out L8.out.symm O8.out ?_)
          have hrow := grownBy_setRow B94.out.1 (rs.toArray)
          have htag := Tag.of_box B94.out.1
          have hle := B94.out.2
          refine at_world (fun X => (Below wq.heap.size wq X) ∧ (MdKeep lo X F' s') ∧ (BoxN X b8 29 hs.toArray ∧ wq.heap.size ≤ b8) ∧ (BoxN X b9 56 rs.toArray ∧ wq.heap.size ≤ b9) ∧ (b8 ≠ b9)) ⟨S4.out.grown hrow.1 S4.out.size (fun k hk => by injection hk with hk; omega), KK4.out.up (Loose.grown hrow.1 htag (by omega) (by decide) (by decide) (by decide)), ⟨B84.out.1.kept hrow.1 (fun e => N894.out (by injection e)), B84.out.2⟩, ⟨hrow.2, hle⟩, N894.out⟩ fun x5 hx5 => ?_
          have S5 := Lib.hid (hx5.1)
          have KK5 := Lib.hid (hx5.2.1)
          have B85 := Lib.hid (hx5.2.2.1)
          have B95 := Lib.hid (hx5.2.2.2.1)
          have N895 := Lib.hid (hx5.2.2.2.2)
          clear hx5
          clear hrow htag hle
          clear S4 KK4 B84 B94 N894
          refine hK.out _ _ ⟨S5.out, ?_⟩
          clear hK K
          refine wpAnyH_take (i := 14) (v := .int .i64 f) rfl (by decide +kernel) (by decide +kernel) (by decide +kernel) (fun _ _ _ h => h) (.inl ⟨rfl, fun W hS => by go_simp⟩) S5.out ?_
          refine wpAnyH_done (by kernel_rfl) ?_ _
          go_wp2_with fail
          go_meet
          exact ⟨_, _, F', rfl, rfl, rfl, S5.out, KK5.out, by rw [← HHS.out]; exact B85.out.1, B85.out.2, by rw [← HRS.out]; exact B95.out.1, B95.out.2⟩
        · refine heldOp rfl fun K hK => ?_
          go_wp2_with fail
          obtain ⟨b9, hq9⟩ : ∃ q, x1.heap.size = q := ⟨_, rfl⟩
          try rw [hq9]
          refine at_world (fun X => (Below wq.heap.size wq X) ∧ (BoxN X b8 29 #[.int .i64 0, .int .i64 0, .int .i64 0, .slice none 0 0, .int .i64 0, .slice none 0 0, .slice none 0 0] ∧ wq.heap.size ≤ b8) ∧ (BoxN X b9 56 #[.int .i64 0, .int .i64 0, .int .i64 0, .int .i64 0, .int .u32 0, .int .u32 0, .int .u64 0, .int .u64 0, .int .i64 0] ∧ wq.heap.size ≤ b9) ∧ (b8 ≠ b9)) ⟨S1.out.trans ((ba x1 (.cells #[.int .i64 0, .int .i64 0, .int .i64 0, .int .i64 0, .int .u32 0, .int .u32 0, .int .u64 0, .int .u64 0, .int .i64 0] 56)).mono S1.out.size), ⟨B81.out.1.alloc _, B81.out.2⟩, ⟨(by rw [← hq9]; exact BoxN.new _ _ _), (by rw [← hq9]; exact S1.out.size)⟩, (by have := B81.out.1.lt; omega)⟩ fun x2 hx2 => ?_
          have S2 := Lib.hid (hx2.1)
          have B82 := Lib.hid (hx2.2.1)
          have B92 := Lib.hid (hx2.2.2.1)
          have N892 := Lib.hid (hx2.2.2.2)
          clear hx2
          clear hq9
          clear S1 B81
          refine hK.out _ _ ⟨S2.out, ?_⟩
          clear hK K
          refine wpAnyH_all (rs := [5]) (by kernel_rfl) (by simp) fun j hj => ?_
          obtain rfl : j = 5 := by simpa using hj
          clear hj
          refine heldOp rfl fun K hK => ?_
          go_wp2_with fail
          refine (CD.out x2 S2.out).mono ?_
          rintro e y ⟨F', rfl, hb, hk⟩
          have HF := Lib.hid (show MdKeep lo y F' s' from hk)
          clear hk
          have V9 := Lib.hid (show mdV F' s' = .agg (mdCells F' s').toArray from rfl)
          have V8 := Lib.hid (show RpV r = .agg (rpCells r).toArray from rfl)
          rw [V9.out, V8.out]
          obtain ⟨hs, hhs⟩ : ∃ hs : List Value, hs = mdCells F' s' := ⟨_, rfl⟩
          obtain ⟨rs, hrs⟩ : ∃ rs : List Value, rs = rpCells r := ⟨_, rfl⟩
          rw [← hhs, ← hrs]
          have HHS := Lib.hid hhs
          have HRS := Lib.hid hrs
          have S9A := Lib.hid (show (Tryz.prog.info? 29).map (·.size) = some hs.toArray.size by rw [hhs]; kernel_rfl)
          have L9 := Lib.hid (show hs.toArray.size = 7 by rw [hhs]; rfl)
          have O9 := Lib.hid (show hs.toArray.all (·.oneCell') = true by rw [hhs]; simp [mdCells, Value.oneCell'])
          have S8A := Lib.hid (show (Tryz.prog.info? 56).map (·.size) = some rs.toArray.size by rw [hrs]; kernel_rfl)
          have L8 := Lib.hid (show rs.toArray.size = 9 by rw [hrs]; rfl)
          have O8 := Lib.hid (show rs.toArray.all (·.oneCell') = true by rw [hrs]; simp [rpCells, Value.oneCell'])
          clear hhs hrs V9 V8
          go_wp2_with fail
          refine at_world (fun X => (Below wq.heap.size wq X) ∧ (MdKeep lo X F' s') ∧ (BoxN X b8 29 #[.int .i64 0, .int .i64 0, .int .i64 0, .slice none 0 0, .int .i64 0, .slice none 0 0, .slice none 0 0] ∧ wq.heap.size ≤ b8) ∧ (BoxN X b9 56 #[.int .i64 0, .int .i64 0, .int .i64 0, .int .i64 0, .int .u32 0, .int .u32 0, .int .u64 0, .int .u64 0, .int .i64 0] ∧ wq.heap.size ≤ b9) ∧ (b8 ≠ b9)) ⟨S2.out.trans (hb.mono S2.out.size), HF.out, ⟨B82.out.1.later hb, B82.out.2⟩, ⟨B92.out.1.later hb, B92.out.2⟩, N892.out⟩ fun x3 hx3 => ?_
          have S3 := Lib.hid (hx3.1)
          have KK3 := Lib.hid (hx3.2.1)
          have B83 := Lib.hid (hx3.2.2.1)
          have B93 := Lib.hid (hx3.2.2.2.1)
          have N893 := Lib.hid (hx3.2.2.2.2)
          clear hx3
          clear hb HF
          clear S2 B82 B92 N892
          refine hK.out _ _ ⟨S3.out, ?_⟩
          clear hK K
          refine wpAnyH_take (i := 6) (v := .tuple #[.agg hs.toArray, .agg rs.toArray, .int .i64 f]) rfl (by decide +kernel) (by decide +kernel) (by decide +kernel) (fun _ _ _ h => h) (.inl ⟨rfl, fun W hS => by go_simp⟩) S3.out ?_
          refine wpAnyH_take (i := 7) (v := .agg hs.toArray) rfl (by decide +kernel) (by decide +kernel) (by decide +kernel) (fun _ _ _ h => h) (.inl ⟨rfl, fun W hS => by go_simp⟩) S3.out ?_
          refine wpAnyH_take (i := 8) (v := .agg rs.toArray) rfl (by decide +kernel) (by decide +kernel) (by decide +kernel) (fun _ _ _ h => h) (.inl ⟨rfl, fun W hS => by go_simp⟩) S3.out ?_
          refine wpAnyH_take (i := 9) (v := .int .i64 f) rfl (by decide +kernel) (by decide +kernel) (by decide +kernel) (fun _ _ _ h => h) (.inl ⟨rfl, fun W hS => by go_simp⟩) S3.out ?_
          refine wpAnyH_all (rs := [12]) (by kernel_rfl) (by simp) fun j hj => ?_
          obtain rfl : j = 12 := by simpa using hj
          clear hj
          refine heldOp rfl fun K hK => ?_
          go_wp2_with (refine wpList_store_row rfl 29 (.tmp 10) (.tmp 47) rfl b8 hs.toArray rfl rfl 29 _ B83.out.1 S9A.out L9.out.symm O9.out ?_)
          have hrow := grownBy_setRow B83.out.1 (hs.toArray)
          have htag := Tag.of_box B83.out.1
          have hle := B83.out.2
          refine at_world (fun X => (Below wq.heap.size wq X) ∧ (MdKeep lo X F' s') ∧ (BoxN X b8 29 hs.toArray ∧ wq.heap.size ≤ b8) ∧ (BoxN X b9 56 #[.int .i64 0, .int .i64 0, .int .i64 0, .int .i64 0, .int .u32 0, .int .u32 0, .int .u64 0, .int .u64 0, .int .i64 0] ∧ wq.heap.size ≤ b9) ∧ (b8 ≠ b9)) ⟨S3.out.grown hrow.1 S3.out.size (fun k hk => by injection hk with hk; omega), KK3.out.up (Loose.grown hrow.1 htag (by omega) (by decide) (by decide) (by decide)), ⟨hrow.2, hle⟩, ⟨B93.out.1.kept hrow.1 (fun e => N893.out.symm (by injection e)), B93.out.2⟩, N893.out⟩ fun x4 hx4 => ?_
          have S4 := Lib.hid (hx4.1)
          have KK4 := Lib.hid (hx4.2.1)
          have B84 := Lib.hid (hx4.2.2.1)
          have B94 := Lib.hid (hx4.2.2.2.1)
          have N894 := Lib.hid (hx4.2.2.2.2)
          clear hx4
          clear hrow htag hle
          clear S3 KK3 B83 B93 N893
          refine hK.out _ _ ⟨S4.out, ?_⟩
          clear hK K
          refine wpAnyH_all (rs := [13]) (by kernel_rfl) (by simp) fun j hj => ?_
          obtain rfl : j = 13 := by simpa using hj
          clear hj
          refine heldOp rfl fun K hK => ?_
          go_wp2_with (refine wpList_store_row rfl 56 (.tmp 11) (.tmp 48) rfl b9 rs.toArray rfl rfl 56 _ B94.out.1 S8A.out L8.out.symm O8.out ?_)
          have hrow := grownBy_setRow B94.out.1 (rs.toArray)
          have htag := Tag.of_box B94.out.1
          have hle := B94.out.2
          refine at_world (fun X => (Below wq.heap.size wq X) ∧ (MdKeep lo X F' s') ∧ (BoxN X b8 29 hs.toArray ∧ wq.heap.size ≤ b8) ∧ (BoxN X b9 56 rs.toArray ∧ wq.heap.size ≤ b9) ∧ (b8 ≠ b9)) ⟨S4.out.grown hrow.1 S4.out.size (fun k hk => by injection hk with hk; omega), KK4.out.up (Loose.grown hrow.1 htag (by omega) (by decide) (by decide) (by decide)), ⟨B84.out.1.kept hrow.1 (fun e => N894.out (by injection e)), B84.out.2⟩, ⟨hrow.2, hle⟩, N894.out⟩ fun x5 hx5 => ?_
          have S5 := Lib.hid (hx5.1)
          have KK5 := Lib.hid (hx5.2.1)
          have B85 := Lib.hid (hx5.2.2.1)
          have B95 := Lib.hid (hx5.2.2.2.1)
          have N895 := Lib.hid (hx5.2.2.2.2)
          clear hx5
          clear hrow htag hle
          clear S4 KK4 B84 B94 N894
          refine hK.out _ _ ⟨S5.out, ?_⟩
          clear hK K
          refine wpAnyH_take (i := 14) (v := .int .i64 f) rfl (by decide +kernel) (by decide +kernel) (by decide +kernel) (fun _ _ _ h => h) (.inl ⟨rfl, fun W hS => by go_simp⟩) S5.out ?_
          refine wpAnyH_done (by kernel_rfl) ?_ _
          go_wp2_with fail
          go_meet
          exact ⟨_, _, F', rfl, rfl, rfl, S5.out, KK5.out, by rw [← HHS.out]; exact B85.out.1, B85.out.2, by rw [← HRS.out]; exact B95.out.1, B95.out.2⟩
      · refine heldOp rfl fun K hK => ?_
        go_wp2_with fail
        obtain ⟨b9, hq9⟩ : ∃ q, wq.heap.size = q := ⟨_, rfl⟩
        try rw [hq9]
        refine at_world (fun X => (Below wq.heap.size wq X) ∧ (BoxN X b9 56 #[.int .i64 0, .int .i64 0, .int .i64 0, .int .i64 0, .int .u32 0, .int .u32 0, .int .u64 0, .int .u64 0, .int .i64 0] ∧ wq.heap.size ≤ b9)) ⟨HS0.trans ((ba wq.drew (.cells #[.int .i64 0, .int .i64 0, .int .i64 0, .int .i64 0, .int .u32 0, .int .u32 0, .int .u64 0, .int .u64 0, .int .i64 0] 56)).mono HS0.size), ⟨(by rw [← hq9]; exact BoxN.new _ _ _), (by rw [← hq9]; exact HS0.size)⟩⟩ fun x1 hx1 => ?_
        have S1 := Lib.hid (hx1.1)
        have B91 := Lib.hid (hx1.2)
        clear hx1
        clear hq9
        refine hK.out _ _ ⟨S1.out, ?_⟩
        clear hK K
        refine wpAnyH_all (rs := [5, 10]) (by kernel_rfl) (by simp) fun j hj => ?_
        simp only [List.mem_cons, List.not_mem_nil, or_false] at hj
        rcases hj with rfl | rfl
        · refine heldOp rfl fun K hK => ?_
          go_wp2_with fail
          refine (CD.out x1 S1.out).mono ?_
          rintro e y ⟨F', rfl, hb, hk⟩
          have HF := Lib.hid (show MdKeep lo y F' s' from hk)
          clear hk
          have V9 := Lib.hid (show mdV F' s' = .agg (mdCells F' s').toArray from rfl)
          have V8 := Lib.hid (show RpV r = .agg (rpCells r).toArray from rfl)
          rw [V9.out, V8.out]
          obtain ⟨hs, hhs⟩ : ∃ hs : List Value, hs = mdCells F' s' := ⟨_, rfl⟩
          obtain ⟨rs, hrs⟩ : ∃ rs : List Value, rs = rpCells r := ⟨_, rfl⟩
          rw [← hhs, ← hrs]
          have HHS := Lib.hid hhs
          have HRS := Lib.hid hrs
          have S9A := Lib.hid (show (Tryz.prog.info? 29).map (·.size) = some hs.toArray.size by rw [hhs]; kernel_rfl)
          have L9 := Lib.hid (show hs.toArray.size = 7 by rw [hhs]; rfl)
          have O9 := Lib.hid (show hs.toArray.all (·.oneCell') = true by rw [hhs]; simp [mdCells, Value.oneCell'])
          have S8A := Lib.hid (show (Tryz.prog.info? 56).map (·.size) = some rs.toArray.size by rw [hrs]; kernel_rfl)
          have L8 := Lib.hid (show rs.toArray.size = 9 by rw [hrs]; rfl)
          have O8 := Lib.hid (show rs.toArray.all (·.oneCell') = true by rw [hrs]; simp [rpCells, Value.oneCell'])
          clear hhs hrs V9 V8
          go_wp2_with fail
          refine at_world (fun X => (Below wq.heap.size wq X) ∧ (MdKeep lo X F' s') ∧ (BoxN X b9 56 #[.int .i64 0, .int .i64 0, .int .i64 0, .int .i64 0, .int .u32 0, .int .u32 0, .int .u64 0, .int .u64 0, .int .i64 0] ∧ wq.heap.size ≤ b9)) ⟨S1.out.trans (hb.mono S1.out.size), HF.out, ⟨B91.out.1.later hb, B91.out.2⟩⟩ fun x2 hx2 => ?_
          have S2 := Lib.hid (hx2.1)
          have KK2 := Lib.hid (hx2.2.1)
          have B92 := Lib.hid (hx2.2.2)
          clear hx2
          clear hb HF
          clear S1 B91
          refine hK.out _ _ ⟨S2.out, ?_⟩
          clear hK K
          refine wpAnyH_take (i := 6) (v := .tuple #[.agg hs.toArray, .agg rs.toArray, .int .i64 f]) rfl (by decide +kernel) (by decide +kernel) (by decide +kernel) (fun _ _ _ h => h) (.inl ⟨rfl, fun W hS => by go_simp⟩) S2.out ?_
          refine wpAnyH_take (i := 7) (v := .agg hs.toArray) rfl (by decide +kernel) (by decide +kernel) (by decide +kernel) (fun _ _ _ h => h) (.inl ⟨rfl, fun W hS => by go_simp⟩) S2.out ?_
          refine wpAnyH_take (i := 8) (v := .agg rs.toArray) rfl (by decide +kernel) (by decide +kernel) (by decide +kernel) (fun _ _ _ h => h) (.inl ⟨rfl, fun W hS => by go_simp⟩) S2.out ?_
          refine wpAnyH_take (i := 9) (v := .int .i64 f) rfl (by decide +kernel) (by decide +kernel) (by decide +kernel) (fun _ _ _ h => h) (.inl ⟨rfl, fun W hS => by go_simp⟩) S2.out ?_
          refine wpAnyH_all (rs := [10]) (by kernel_rfl) (by simp) fun j hj => ?_
          obtain rfl : j = 10 := by simpa using hj
          clear hj
          refine heldOp rfl fun K hK => ?_
          go_wp2_with fail
          obtain ⟨b8, hq8⟩ : ∃ q, x2.heap.size = q := ⟨_, rfl⟩
          try rw [hq8]
          refine at_world (fun X => (Below wq.heap.size wq X) ∧ (MdKeep lo X F' s') ∧ (BoxN X b8 29 #[.int .i64 0, .int .i64 0, .int .i64 0, .slice none 0 0, .int .i64 0, .slice none 0 0, .slice none 0 0] ∧ wq.heap.size ≤ b8) ∧ (BoxN X b9 56 #[.int .i64 0, .int .i64 0, .int .i64 0, .int .i64 0, .int .u32 0, .int .u32 0, .int .u64 0, .int .u64 0, .int .i64 0] ∧ wq.heap.size ≤ b9) ∧ (b8 ≠ b9)) ⟨S2.out.trans ((ba x2 (.cells #[.int .i64 0, .int .i64 0, .int .i64 0, .slice none 0 0, .int .i64 0, .slice none 0 0, .slice none 0 0] 29)).mono S2.out.size), KK2.out.up (Loose.of (ba x2 (.cells #[.int .i64 0, .int .i64 0, .int .i64 0, .slice none 0 0, .int .i64 0, .slice none 0 0, .slice none 0 0] 29))), ⟨(by rw [← hq8]; exact BoxN.new _ _ _), (by rw [← hq8]; exact S2.out.size)⟩, ⟨B92.out.1.alloc _, B92.out.2⟩, (by have := B92.out.1.lt; omega)⟩ fun x3 hx3 => ?_
          have S3 := Lib.hid (hx3.1)
          have KK3 := Lib.hid (hx3.2.1)
          have B83 := Lib.hid (hx3.2.2.1)
          have B93 := Lib.hid (hx3.2.2.2.1)
          have N893 := Lib.hid (hx3.2.2.2.2)
          clear hx3
          clear hq8
          clear S2 KK2 B92
          refine hK.out _ _ ⟨S3.out, ?_⟩
          clear hK K
          refine wpAnyH_all (rs := [12]) (by kernel_rfl) (by simp) fun j hj => ?_
          obtain rfl : j = 12 := by simpa using hj
          clear hj
          refine heldOp rfl fun K hK => ?_
          go_wp2_with (refine wpList_store_row rfl 29 (.tmp 10) (.tmp 47) rfl b8 hs.toArray rfl rfl 29 _ B83.out.1 S9A.out L9.out.symm O9.out ?_)
          have hrow := grownBy_setRow B83.out.1 (hs.toArray)
          have htag := Tag.of_box B83.out.1
          have hle := B83.out.2
          refine at_world (fun X => (Below wq.heap.size wq X) ∧ (MdKeep lo X F' s') ∧ (BoxN X b8 29 hs.toArray ∧ wq.heap.size ≤ b8) ∧ (BoxN X b9 56 #[.int .i64 0, .int .i64 0, .int .i64 0, .int .i64 0, .int .u32 0, .int .u32 0, .int .u64 0, .int .u64 0, .int .i64 0] ∧ wq.heap.size ≤ b9) ∧ (b8 ≠ b9)) ⟨S3.out.grown hrow.1 S3.out.size (fun k hk => by injection hk with hk; omega), KK3.out.up (Loose.grown hrow.1 htag (by omega) (by decide) (by decide) (by decide)), ⟨hrow.2, hle⟩, ⟨B93.out.1.kept hrow.1 (fun e => N893.out.symm (by injection e)), B93.out.2⟩, N893.out⟩ fun x4 hx4 => ?_
          have S4 := Lib.hid (hx4.1)
          have KK4 := Lib.hid (hx4.2.1)
          have B84 := Lib.hid (hx4.2.2.1)
          have B94 := Lib.hid (hx4.2.2.2.1)
          have N894 := Lib.hid (hx4.2.2.2.2)
          clear hx4
          clear hrow htag hle
          clear S3 KK3 B83 B93 N893
          refine hK.out _ _ ⟨S4.out, ?_⟩
          clear hK K
          refine wpAnyH_all (rs := [13]) (by kernel_rfl) (by simp) fun j hj => ?_
          obtain rfl : j = 13 := by simpa using hj
          clear hj
          refine heldOp rfl fun K hK => ?_
          go_wp2_with (refine wpList_store_row rfl 56 (.tmp 11) (.tmp 48) rfl b9 rs.toArray rfl rfl 56 _ B94.out.1 S8A.out L8.out.symm O8.out ?_)
          have hrow := grownBy_setRow B94.out.1 (rs.toArray)
          have htag := Tag.of_box B94.out.1
          have hle := B94.out.2
          refine at_world (fun X => (Below wq.heap.size wq X) ∧ (MdKeep lo X F' s') ∧ (BoxN X b8 29 hs.toArray ∧ wq.heap.size ≤ b8) ∧ (BoxN X b9 56 rs.toArray ∧ wq.heap.size ≤ b9) ∧ (b8 ≠ b9)) ⟨S4.out.grown hrow.1 S4.out.size (fun k hk => by injection hk with hk; omega), KK4.out.up (Loose.grown hrow.1 htag (by omega) (by decide) (by decide) (by decide)), ⟨B84.out.1.kept hrow.1 (fun e => N894.out (by injection e)), B84.out.2⟩, ⟨hrow.2, hle⟩, N894.out⟩ fun x5 hx5 => ?_
          have S5 := Lib.hid (hx5.1)
          have KK5 := Lib.hid (hx5.2.1)
          have B85 := Lib.hid (hx5.2.2.1)
          have B95 := Lib.hid (hx5.2.2.2.1)
          have N895 := Lib.hid (hx5.2.2.2.2)
          clear hx5
          clear hrow htag hle
          clear S4 KK4 B84 B94 N894
          refine hK.out _ _ ⟨S5.out, ?_⟩
          clear hK K
          refine wpAnyH_take (i := 14) (v := .int .i64 f) rfl (by decide +kernel) (by decide +kernel) (by decide +kernel) (fun _ _ _ h => h) (.inl ⟨rfl, fun W hS => by go_simp⟩) S5.out ?_
          refine wpAnyH_done (by kernel_rfl) ?_ _
          go_wp2_with fail
          go_meet
          exact ⟨_, _, F', rfl, rfl, rfl, S5.out, KK5.out, by rw [← HHS.out]; exact B85.out.1, B85.out.2, by rw [← HRS.out]; exact B95.out.1, B95.out.2⟩
        · refine heldOp rfl fun K hK => ?_
          go_wp2_with fail
          obtain ⟨b8, hq8⟩ : ∃ q, x1.heap.size = q := ⟨_, rfl⟩
          try rw [hq8]
          refine at_world (fun X => (Below wq.heap.size wq X) ∧ (BoxN X b8 29 #[.int .i64 0, .int .i64 0, .int .i64 0, .slice none 0 0, .int .i64 0, .slice none 0 0, .slice none 0 0] ∧ wq.heap.size ≤ b8) ∧ (BoxN X b9 56 #[.int .i64 0, .int .i64 0, .int .i64 0, .int .i64 0, .int .u32 0, .int .u32 0, .int .u64 0, .int .u64 0, .int .i64 0] ∧ wq.heap.size ≤ b9) ∧ (b8 ≠ b9)) ⟨S1.out.trans ((ba x1 (.cells #[.int .i64 0, .int .i64 0, .int .i64 0, .slice none 0 0, .int .i64 0, .slice none 0 0, .slice none 0 0] 29)).mono S1.out.size), ⟨(by rw [← hq8]; exact BoxN.new _ _ _), (by rw [← hq8]; exact S1.out.size)⟩, ⟨B91.out.1.alloc _, B91.out.2⟩, (by have := B91.out.1.lt; omega)⟩ fun x2 hx2 => ?_
          have S2 := Lib.hid (hx2.1)
          have B82 := Lib.hid (hx2.2.1)
          have B92 := Lib.hid (hx2.2.2.1)
          have N892 := Lib.hid (hx2.2.2.2)
          clear hx2
          clear hq8
          clear S1 B91
          refine hK.out _ _ ⟨S2.out, ?_⟩
          clear hK K
          refine wpAnyH_all (rs := [5]) (by kernel_rfl) (by simp) fun j hj => ?_
          obtain rfl : j = 5 := by simpa using hj
          clear hj
          refine heldOp rfl fun K hK => ?_
          go_wp2_with fail
          refine (CD.out x2 S2.out).mono ?_
          rintro e y ⟨F', rfl, hb, hk⟩
          have HF := Lib.hid (show MdKeep lo y F' s' from hk)
          clear hk
          have V9 := Lib.hid (show mdV F' s' = .agg (mdCells F' s').toArray from rfl)
          have V8 := Lib.hid (show RpV r = .agg (rpCells r).toArray from rfl)
          rw [V9.out, V8.out]
          obtain ⟨hs, hhs⟩ : ∃ hs : List Value, hs = mdCells F' s' := ⟨_, rfl⟩
          obtain ⟨rs, hrs⟩ : ∃ rs : List Value, rs = rpCells r := ⟨_, rfl⟩
          rw [← hhs, ← hrs]
          have HHS := Lib.hid hhs
          have HRS := Lib.hid hrs
          have S9A := Lib.hid (show (Tryz.prog.info? 29).map (·.size) = some hs.toArray.size by rw [hhs]; kernel_rfl)
          have L9 := Lib.hid (show hs.toArray.size = 7 by rw [hhs]; rfl)
          have O9 := Lib.hid (show hs.toArray.all (·.oneCell') = true by rw [hhs]; simp [mdCells, Value.oneCell'])
          have S8A := Lib.hid (show (Tryz.prog.info? 56).map (·.size) = some rs.toArray.size by rw [hrs]; kernel_rfl)
          have L8 := Lib.hid (show rs.toArray.size = 9 by rw [hrs]; rfl)
          have O8 := Lib.hid (show rs.toArray.all (·.oneCell') = true by rw [hrs]; simp [rpCells, Value.oneCell'])
          clear hhs hrs V9 V8
          go_wp2_with fail
          refine at_world (fun X => (Below wq.heap.size wq X) ∧ (MdKeep lo X F' s') ∧ (BoxN X b8 29 #[.int .i64 0, .int .i64 0, .int .i64 0, .slice none 0 0, .int .i64 0, .slice none 0 0, .slice none 0 0] ∧ wq.heap.size ≤ b8) ∧ (BoxN X b9 56 #[.int .i64 0, .int .i64 0, .int .i64 0, .int .i64 0, .int .u32 0, .int .u32 0, .int .u64 0, .int .u64 0, .int .i64 0] ∧ wq.heap.size ≤ b9) ∧ (b8 ≠ b9)) ⟨S2.out.trans (hb.mono S2.out.size), HF.out, ⟨B82.out.1.later hb, B82.out.2⟩, ⟨B92.out.1.later hb, B92.out.2⟩, N892.out⟩ fun x3 hx3 => ?_
          have S3 := Lib.hid (hx3.1)
          have KK3 := Lib.hid (hx3.2.1)
          have B83 := Lib.hid (hx3.2.2.1)
          have B93 := Lib.hid (hx3.2.2.2.1)
          have N893 := Lib.hid (hx3.2.2.2.2)
          clear hx3
          clear hb HF
          clear S2 B82 B92 N892
          refine hK.out _ _ ⟨S3.out, ?_⟩
          clear hK K
          refine wpAnyH_take (i := 6) (v := .tuple #[.agg hs.toArray, .agg rs.toArray, .int .i64 f]) rfl (by decide +kernel) (by decide +kernel) (by decide +kernel) (fun _ _ _ h => h) (.inl ⟨rfl, fun W hS => by go_simp⟩) S3.out ?_
          refine wpAnyH_take (i := 7) (v := .agg hs.toArray) rfl (by decide +kernel) (by decide +kernel) (by decide +kernel) (fun _ _ _ h => h) (.inl ⟨rfl, fun W hS => by go_simp⟩) S3.out ?_
          refine wpAnyH_take (i := 8) (v := .agg rs.toArray) rfl (by decide +kernel) (by decide +kernel) (by decide +kernel) (fun _ _ _ h => h) (.inl ⟨rfl, fun W hS => by go_simp⟩) S3.out ?_
          refine wpAnyH_take (i := 9) (v := .int .i64 f) rfl (by decide +kernel) (by decide +kernel) (by decide +kernel) (fun _ _ _ h => h) (.inl ⟨rfl, fun W hS => by go_simp⟩) S3.out ?_
          refine wpAnyH_all (rs := [12]) (by kernel_rfl) (by simp) fun j hj => ?_
          obtain rfl : j = 12 := by simpa using hj
          clear hj
          refine heldOp rfl fun K hK => ?_
          go_wp2_with (refine wpList_store_row rfl 29 (.tmp 10) (.tmp 47) rfl b8 hs.toArray rfl rfl 29 _ B83.out.1 S9A.out L9.out.symm O9.out ?_)
          have hrow := grownBy_setRow B83.out.1 (hs.toArray)
          have htag := Tag.of_box B83.out.1
          have hle := B83.out.2
          refine at_world (fun X => (Below wq.heap.size wq X) ∧ (MdKeep lo X F' s') ∧ (BoxN X b8 29 hs.toArray ∧ wq.heap.size ≤ b8) ∧ (BoxN X b9 56 #[.int .i64 0, .int .i64 0, .int .i64 0, .int .i64 0, .int .u32 0, .int .u32 0, .int .u64 0, .int .u64 0, .int .i64 0] ∧ wq.heap.size ≤ b9) ∧ (b8 ≠ b9)) ⟨S3.out.grown hrow.1 S3.out.size (fun k hk => by injection hk with hk; omega), KK3.out.up (Loose.grown hrow.1 htag (by omega) (by decide) (by decide) (by decide)), ⟨hrow.2, hle⟩, ⟨B93.out.1.kept hrow.1 (fun e => N893.out.symm (by injection e)), B93.out.2⟩, N893.out⟩ fun x4 hx4 => ?_
          have S4 := Lib.hid (hx4.1)
          have KK4 := Lib.hid (hx4.2.1)
          have B84 := Lib.hid (hx4.2.2.1)
          have B94 := Lib.hid (hx4.2.2.2.1)
          have N894 := Lib.hid (hx4.2.2.2.2)
          clear hx4
          clear hrow htag hle
          clear S3 KK3 B83 B93 N893
          refine hK.out _ _ ⟨S4.out, ?_⟩
          clear hK K
          refine wpAnyH_all (rs := [13]) (by kernel_rfl) (by simp) fun j hj => ?_
          obtain rfl : j = 13 := by simpa using hj
          clear hj
          refine heldOp rfl fun K hK => ?_
          go_wp2_with (refine wpList_store_row rfl 56 (.tmp 11) (.tmp 48) rfl b9 rs.toArray rfl rfl 56 _ B94.out.1 S8A.out L8.out.symm O8.out ?_)
          have hrow := grownBy_setRow B94.out.1 (rs.toArray)
          have htag := Tag.of_box B94.out.1
          have hle := B94.out.2
          refine at_world (fun X => (Below wq.heap.size wq X) ∧ (MdKeep lo X F' s') ∧ (BoxN X b8 29 hs.toArray ∧ wq.heap.size ≤ b8) ∧ (BoxN X b9 56 rs.toArray ∧ wq.heap.size ≤ b9) ∧ (b8 ≠ b9)) ⟨S4.out.grown hrow.1 S4.out.size (fun k hk => by injection hk with hk; omega), KK4.out.up (Loose.grown hrow.1 htag (by omega) (by decide) (by decide) (by decide)), ⟨B84.out.1.kept hrow.1 (fun e => N894.out (by injection e)), B84.out.2⟩, ⟨hrow.2, hle⟩, N894.out⟩ fun x5 hx5 => ?_
          have S5 := Lib.hid (hx5.1)
          have KK5 := Lib.hid (hx5.2.1)
          have B85 := Lib.hid (hx5.2.2.1)
          have B95 := Lib.hid (hx5.2.2.2.1)
          have N895 := Lib.hid (hx5.2.2.2.2)
          clear hx5
          clear hrow htag hle
          clear S4 KK4 B84 B94 N894
          refine hK.out _ _ ⟨S5.out, ?_⟩
          clear hK K
          refine wpAnyH_take (i := 14) (v := .int .i64 f) rfl (by decide +kernel) (by decide +kernel) (by decide +kernel) (fun _ _ _ h => h) (.inl ⟨rfl, fun W hS => by go_simp⟩) S5.out ?_
          refine wpAnyH_done (by kernel_rfl) ?_ _
          go_wp2_with fail
          go_meet
          exact ⟨_, _, F', rfl, rfl, rfl, S5.out, KK5.out, by rw [← HHS.out]; exact B85.out.1, B85.out.2, by rw [← HRS.out]; exact B95.out.1, B95.out.2⟩
    case rest =>
    obtain ⟨b8, b9, F', rfl, rfl, rfl, hb, hkn, h8, hl8, h9, hl9⟩ := hcut
    rename World => y
    have BY := Lib.hid (HB.out.trans (hb.mono HB.out.size))
    have HSy := Lib.hid (HS.out.later hb)
    have HAy := Lib.hid (HA.out.up hb)
    have HGy := Lib.hid (HG.out.up hb)
    have HKn := Lib.hid hkn
    have H9y := Lib.hid h9
    have HTO := Lib.hid (HTK.out _ _ hkn.isMd)
    have S8 := Lib.hid (show (Tryz.prog.info? 29).map (·.size) = some (mdCells F' s').length by kernel_rfl)
    have S8A := Lib.hid (show (Tryz.prog.info? 29).map (·.size) = some (mdCells F' s').toArray.size by kernel_rfl)
    have O8 := Lib.hid (show (mdCells F' s').toArray.all (·.oneCell') = true by simp [mdCells, Value.oneCell'])
    have L8 := Lib.hid (show (mdCells F' s').toArray.size = 7 by rfl)
    obtain ⟨hs, hhs⟩ : ∃ hs : List Value, hs = mdCells F' s' := ⟨_, rfl⟩
    rw [← hhs] at S8 S8A O8 L8 h8
    have H8y := Lib.hid h8
    have HHS := Lib.hid hhs
    clear hb hkn h8 h9 hhs CD HB HS HA HG HK HAT HTK hbl S7 S2
    have hrow := grownBy_setRow HSy.out hs.toArray
    have htag := Tag.of_box HSy.out
    go_upto_region 11 with (first | refine wpList_load_mid rfl 29 (.tmp 10) rfl b8 0 rfl hs _ H8y.out.range2 Tryz.underlying29 rfl S8.out ?_ | refine wpList_store_row rfl 29 (.tmp 5) (.tmp 50) rfl q hs.toArray rfl rfl 29 _ HSy.out S8A.out (LM.out.trans L8.out.symm) O8.out ?_)
    refine at_world (fun X => Below w.heap.size w X ∧ BoxN X q 29 hs.toArray ∧ BoxN X b9 56 (rpCells r).toArray ∧ MdKeep lo X F' s' ∧ Own tkR 54 lo X (.slice A7 als.length c7) als ∧ Own boR 4 lo X (.slice A8 G.length c8) G) ⟨BY.out.grown hrow.1 BY.out.size (fun j hj => by injection hj with hj; omega), hrow.2, H9y.out.kept hrow.1 (fun e => by injection e with e; omega), HKn.out.up (Loose.grown hrow.1 htag (by omega) (by decide) (by decide) (by decide)), HAy.out.kept_box hrow.1 HSy.out (by decide) tkR_flat, HGy.out.kept_box hrow.1 HSy.out (by decide) boR_flat⟩ fun z hz => ?_
    have BZ := Lib.hid hz.1
    have HSz := Lib.hid hz.2.1
    have H9z := Lib.hid hz.2.2.1
    have HKz := Lib.hid hz.2.2.2.1
    have HAz := Lib.hid hz.2.2.2.2.1
    have HGz := Lib.hid hz.2.2.2.2.2
    clear hz hrow htag BY HSy H9y HKn HAy HGy H8y S8 S8A O8 L8 LM
    obtain ⟨er, se, rn, dl, tk, pl⟩ := r
    obtain ⟨ts, oo, tse, tep⟩ := tk
    simp only at HMX HHM HTO
    have r4 := H9z.out.cell 4 (.int .u32 ts) rfl
    have r5 := H9z.out.cell 5 (.int .u32 oo) rfl
    have r6 := H9z.out.cell 6 (.int .u64 tse) rfl
    have r7 := H9z.out.cell 7 (.int .u64 tep) rfl
    have z9 := H9z.out.lt
    dsimp only [Act.put]
    simp only [List.setIfInBounds_toArray, List.set_cons_succ, List.set_cons_zero]
    go_cut [58] from 30 to 157 (fun v W => ∃ tb : Bool, v = .bool tb ∧ Hid (tb = true ↔ f = 0 ∧ (⟨ts, oo, tse, tep⟩ : Tk) ≠ noTk) ∧ W = z)
    case first => as_aux_lemma =>
      clear HMX HHM HTO
      by_cases hf : f = 0
      case neg =>
        have t1 : (f == 0) = false := by simpa using hf
        have HF := Lib.hid hf
        clear hf
        go_wp2_with fail
        go_meet
        exact ⟨_, rfl, Lib.hid ⟨fun h => by (cases h), fun h => absurd h.1 HF.out⟩, rfl⟩
      have t1 : (f == 0) = true := by simpa using hf
      have HF := Lib.hid hf
      clear hf
      by_cases h1 : ts = 0
      case neg =>
        have t2 : (ts == 0) = false := by simpa using h1
        have HN := Lib.hid h1
        clear h1
        go_wp2_with fail
        go_meet
        exact ⟨_, rfl, Lib.hid ⟨fun _ => ⟨HF.out, fun h => HN.out (congrArg Tk.seat h)⟩, fun _ => rfl⟩, rfl⟩
      have t2 : (ts == 0) = true := by simpa using h1
      by_cases h2 : oo = 0
      case neg =>
        have t3 : (oo == 0) = false := by simpa using h2
        have HN := Lib.hid h2
        clear h2
        go_wp2_with fail
        go_meet
        exact ⟨_, rfl, Lib.hid ⟨fun _ => ⟨HF.out, fun h => HN.out (congrArg Tk.owner h)⟩, fun _ => rfl⟩, rfl⟩
      have t3 : (oo == 0) = true := by simpa using h2
      by_cases h3 : tse = 0
      case neg =>
        have t4 : (tse == 0) = false := by simpa using h3
        have HN := Lib.hid h3
        clear h3
        go_wp2_with fail
        go_meet
        exact ⟨_, rfl, Lib.hid ⟨fun _ => ⟨HF.out, fun h => HN.out (congrArg Tk.serial h)⟩, fun _ => rfl⟩, rfl⟩
      have t4 : (tse == 0) = true := by simpa using h3
      by_cases h4 : tep = 0
      case neg =>
        have t5 : (tep == 0) = false := by simpa using h4
        have HN := Lib.hid h4
        clear h4
        go_wp2_with fail
        go_meet
        exact ⟨_, rfl, Lib.hid ⟨fun _ => ⟨HF.out, fun h => HN.out (congrArg Tk.epoch h)⟩, fun _ => rfl⟩, rfl⟩
      have t5 : (tep == 0) = true := by simpa using h4
      clear r4 r5 r6 r7
      subst h1 h2 h3 h4
      have r4 := H9z.out.cell 4 (.int .u32 0) rfl
      have r5 := H9z.out.cell 5 (.int .u32 0) rfl
      have r6 := H9z.out.cell 6 (.int .u64 0) rfl
      have r7 := H9z.out.cell 7 (.int .u64 0) rfl
      go_wp2_with fail
      go_meet
      exact ⟨_, rfl, Lib.hid ⟨fun h => by (cases h), fun h => absurd rfl h.2⟩, rfl⟩
    case rest =>
    obtain ⟨tb, rfl, HTB, rfl⟩ := hcut
    rename World => z
    go_upto_if 58 with fail
    go_cut [7, 8] from 30 to 157 (fun va vg W => ∃ als2 G2, Hid (Own tkR 54 lo W va als2) ∧ Hid (Own boR 4 lo W vg G2) ∧ Hid (als2.length ≤ k + 1 ∧ Held1 s' als2 ∧ MixTo s' als2 G2 0) ∧ Hid (Below w.heap.size w W) ∧ Hid (BoxN W q 29 hs.toArray) ∧ Hid (MdKeep lo W F' s'))
    case first => as_aux_lemma =>
      cases tb
      case false =>
        have h1 := HHM.out
        rw [if_neg (fun h => by have := HTB.out.2 h; cases this)] at h1
        have HQ := Lib.hid (show als.length ≤ k + 1 ∧ Held1 s' als ∧ MixTo s' als G 0 from ⟨by have := HAL.out; omega, h1, HMX.out.1⟩)
        clear h1
        go_wp2_with fail
        go_meet
        exact ⟨als, G, HAz, HGz, HQ, BZ, HSz, HKz⟩
      case true =>
        have h1 := HHM.out
        rw [if_pos (HTB.out.1 rfl)] at h1
        have HGL := Lib.hid HMX.out.1.len
        have HQ := Lib.hid (show (als ++ [(⟨ts, oo, tse, tep⟩ : Tk)]).length ≤ k + 1 ∧ Held1 s' (als ++ [⟨ts, oo, tse, tep⟩]) ∧ MixTo s' (als ++ [⟨ts, oo, tse, tep⟩]) (G ++ [false]) 0 from ⟨by have := HAL.out; simp; omega, h1, HMX.out.2⟩)
        have hal : als.length ≤ 30 := by have := HAL.out; omega
        have hgl : G.length ≤ 30 := by have := HGL.out; omega
        have hlz : lo ≤ z.heap.size := by have := HSz.out.lt; omega
        have HZ := Lib.hid (show OneSt lo q w z (.slice A7 als.length c7) (.slice A8 G.length c8) als G hs.toArray F' s' from ⟨BZ.out, HSz.out, HKz.out, HAz.out, HGz.out⟩)
        have hwl : w.heap.size ≤ lo := Nat.le_of_lt hvl
        clear h1 HMX HHM HTB
        go_wp2_with (first | (at_builtin; refine wpList_append_sl _ rfl (.tmp 59) (.tmp 62) 36 rfl tkR lo 54 _ 24 Tryz.underlying36 infoTk rfl (by decide) _ als rfl (HAz.out.up (ba _ _)) _ [(⟨ts, oo, tse, tep⟩ : Tk)] rfl (tk_one _ _ _ rfl HTO.out) (by simp; omega) (by decide) (by simp [World.size_alloc]; omega) (fun w' _ cs y h => tkR_flat _ _ _ _ h) ?_; intro v1 w7 hown1 hg1 hat1) | (at_builtin; refine wpList_append_sl _ rfl (.tmp 64) (.tmp 65) 71 rfl boR lo 4 _ 1 Tryz.underlying71 infoBo rfl (by decide) _ G rfl ((HZ.out.addT hwl hg1 hown1).2.2.2.2.up (ba _ _)) _ [false] rfl (bo_one _ _ false rfl) (by simp; omega) (by decide) (by have := (HZ.out.addT hwl hg1 hown1).2.1.lt; simp [World.size_alloc]; omega) (fun w' _ cs y h => boR_flat _ _ _ _ h) ?_; intro v2 w8 hown2 hg2 hat2))
        have HY := (HZ.out.addT hwl hg1 hown1).addG hwl hg2 hown2
        go_meet
        exact ⟨als ++ [⟨ts, oo, tse, tep⟩], G ++ [false], Lib.hid HY.2.2.2.1, Lib.hid HY.2.2.2.2, HQ, Lib.hid HY.1, Lib.hid HY.2.1, Lib.hid HY.2.2.1⟩
    case rest =>
    obtain ⟨als2, G2, HAp, HGp, HMp, BP, HSp, HKp⟩ := hcut
    rename World => p
    clear BZ HSz H9z HKz HAz HGz r4 r5 r6 r7 z9 HMX HHM HTO HTB HAL hc7 hm7 hc8 hm8
    obtain ⟨A7, c7, rfl, hc7, hm7, hA⟩ := HAp.out.form
    obtain ⟨A8, c8, rfl, hc8, hm8, hG⟩ := HGp.out.form
    have HAp := Lib.hid hA
    have HGp := Lib.hid hG
    have HGL := Lib.hid HMp.out.2.2.len
    have HHD := Lib.hid HMp.out.2.1
    have HLE := Lib.hid HMp.out.1
    have HMP := Lib.hid HMp.out.2.2
    clear hA hG HMp
    have hal : als2.length ≤ 31 := by have := HLE.out; omega
    go_wp2_with fail
    go_loopw [13] (fun iv wr => ∃ (j : Nat) (Gj : List Bool), j ≤ als2.length ∧ iv = .int .i64 (j : Int) ∧ Hid (Gj.length = G2.length ∧ MixTo s' als2 Gj j) ∧ Hid (Below w.heap.size w wr) ∧ Hid (BoxN wr q 29 hs.toArray) ∧ Hid (MdKeep lo wr F' s') ∧ Hid (Own tkR 54 lo wr (.slice A7 als2.length c7) als2) ∧ Hid (Own boR 4 lo wr (.slice A8 G2.length c8) Gj)) (fun iv _ => als2.length - (intOf iv).toNat)
    case atStart => exact ⟨0, G2, by omega, rfl, Lib.hid ⟨rfl, HMP.out⟩, BP, HSp, HKp, HAp, HGp⟩
    case round =>
      obtain ⟨j, Gj, hj, rfl, HMj, BD, HSd, HKd, HAd, HGd⟩ := hrel
      rename World => d
      clear BP HSp HKp HAp HGp HMP
      by_cases hjl : j < als2.length
      case neg => as_aux_lemma =>
        obtain rfl : j = als2.length := by omega
        have tj : decide ((als2.length : Int) < (als2.length : Int)) = false := by simp
        have HQ := Lib.hid (show als2.length ≤ k + 1 ∧ Held1 (stAt s ops (k + 1)) als2 ∧ MixTo (stAt s ops (k + 1)) als2 Gj als2.length by rw [HNS.out]; exact ⟨HLE.out, HHD.out, HMj.out.2⟩)
        have HGd := Lib.hid (show Own boR 4 lo d (.slice A8 Gj.length c8) Gj by rw [HMj.out.1]; exact HGd.out)
        go_wp2_with fail
        exact ⟨⟨k + 1, F', als2, Gj, by omega, by go_num, BD, Lib.hid (by rw [HNS.out, ← HHS.out]; exact HSd.out), Lib.hid (by rw [HNS.out]; exact HKd.out), HAd, by rw [← HMj.out.1]; exact HGd, HQ⟩, by simp [intOf]; omega⟩
      have tj : decide ((j : Int) < (als2.length : Int)) = true := decide_eq_true (by omega)
      have hj0 : (0 : Int) ≤ (j : Int) := by omega
      have hj1 : (j : Int) < (als2.length : Int) := by omega
      have hjG : j < Gj.length := by have := HMj.out.1; have := HGL.out; omega
      have hj2 : (j : Int) < (G2.length : Int) := by have := HMj.out.1; omega
      have hld : lo ≤ d.heap.size := by have := HSd.out.lt; omega
      obtain ⟨gt, tcs, rfl, hgt1, hgt2, ⟨rfl, hto⟩, hct, _⟩ := HAd.out.at_ hjl
      obtain ⟨gg, gcs, rfl, hgg1, hgg2, rfl, hcg, hfg⟩ := HGd.out.at_ hjG
      have CV := Lib.hid (fun W (hb : Below d.heap.size d W) => valid_any lo F' s' als2[j] W (HKd.out.up (Loose.of hb)) (Nat.le_trans hld hb.size) OKn.out hto (HU.out.up (BD.out.trans (hb.mono BD.out.size)) HU.out.1))
      have HVS := Lib.hid (@validM_seat s' als2[j])
      have HRS := Lib.hid (HMj.out.2.rest j hjG hjl (Nat.le_refl _))
      have HNM := Lib.hid (HMj.out.2.next hjl)
      have HAL := Lib.hid (fun n (hn : n < j) (h1 : n < (Gj.set j (!validM s' als2[j])).length) (h2 : n < als2.length) hv (he : als2[n].seat = als2[j].seat) => (HMj.out.2.next hjl).alone HHD.out hjl hv hn h1 h2 he)
      have HCT := Lib.hid hct
      have h0t := hct 0 _ rfl
      have h1t := hct 1 _ rfl
      have h2t := hct 2 _ rfl
      have h3t := hct 3 _ rfl
      have h0g := hcg 0 _ rfl
      have h1g := hfg j
      simp only [tkR, boR, Nat.mul_one, Nat.add_zero] at h0t h1t h2t h3t h0g
      have HPT := Lib.hid (HGd.out.put (k := j) hjG (x := !validM s' als2[j]) (cs := [.bool (!validM s' als2[j])]) rfl (fun _ _ _ _ h => h))
      simp only [putAt, boR, Nat.mul_one] at HPT
      have S8 := Lib.hid (show (Tryz.prog.info? 29).map (·.size) = some hs.length by rw [HHS.out]; kernel_rfl)
      have hvv : mdV F' s' = .agg hs.toArray := by rw [HHS.out]; rfl
      rw [hvv] at CV
      clear hct hcg hfg hvv hto
      generalize hT : als2[j] = T at *
      obtain ⟨ts, oo, tse, tep⟩ := T
      generalize validM s' ⟨ts, oo, tse, tep⟩ = V at *
      generalize hgj : Gj[j] = gj at *
      unfold tkCells at CV
      simp only at h0t h1t h2t h3t HVS
      have HT := Lib.hid hT
      clear hT hgj
      go_upto_region 16 with fail
      go_cut [14] from 67 to 157 (fun v W => v = .bool V ∧ Below d.heap.size d W)
      case first => as_aux_lemma =>
        refine wp_region_gro (by kernel_rfl) (by kernel_rfl) ?_
        have g0 := gro_cell h0t
        have g1 := gro_cell h1t
        have g2 := gro_cell h2t
        have g3 := gro_cell h3t
        have hd := (show BoxN d q 29 (mdCells F' s').toArray from HHS.out ▸ HSd.out)
        have m0 := gro_cell (hd.cell 0 _ rfl)
        have m1 := gro_cell (hd.cell 1 _ rfl)
        have m2 := gro_cell (hd.cell 2 _ rfl)
        have m3 := gro_cell (hd.cell 3 _ rfl)
        have m4 := gro_cell (hd.cell 4 _ rfl)
        have m5 := gro_cell (hd.cell 5 _ rfl)
        have m6 := gro_cell (hd.cell 6 _ rfl)
        rw [HHS.out] at CV
        unfold mdCells at CV
        clear hd
        repeat (go_big_quiet_step (first | (go_at_call 34; exact Calls.gro_of (CV.out _ (gro_below _ _))) | fail))
        refine wpQuiet_nil ?_
        rintro _ ⟨p2, rfl⟩
        have hb := gro_below d p2
        go_wp2_with fail
        go_meet
        exact ⟨rfl, hb⟩
      case rest =>
      obtain ⟨rfl, hb⟩ := hcut
      rename World => e
      have BE := Lib.hid (BD.out.trans (hb.mono BD.out.size))
      have HSe := Lib.hid (HSd.out.later hb)
      have HKe := Lib.hid (HKd.out.up (Loose.of hb))
      have HAe := Lib.hid (HAd.out.up hb)
      have HGe := Lib.hid (HGd.out.up hb)
      have h0t := cell_later hb h0t
      have h1t := cell_later hb h1t
      have h2t := cell_later hb h2t
      have h3t := cell_later hb h3t
      have h1g := free_later hb h0g h1g
      have h0g := cell_later hb h0g
      have hgt3 := Nat.lt_of_lt_of_le hgt2 hb.size
      have hgg3 := Nat.lt_of_lt_of_le hgg2 hb.size
      have HPT := Lib.hid (HGe.out.put (k := j) hjG (x := !V) (cs := [.bool (!V)]) rfl (fun _ _ _ _ h => h))
      simp only [putAt, boR, Nat.mul_one] at HPT
      clear hb BD HSd HKd HAd HGd CV hgt2 hgg2
      cases V
      case false => as_aux_lemma =>
        simp only [Bool.not_false] at HPT HNM
        clear h0t h1t h2t h3t HAL HVS HRS
        go_wp2_with fail
        have hbx := BE.out.grown HPT.out.2 BE.out.size (fun z hz => by injection hz with hz; omega)
        have htag : Tag e gg 4 := Tag.of_own HGe.out
        exact ⟨⟨j + 1, _, by omega, by go_num, Lib.hid ⟨by rw [List.length_set]; exact HMj.out.1, HNM.out⟩, Lib.hid hbx, Lib.hid (HSe.out.kept_own (show e.grownBy _ (Value.slice (some ⟨gg, 0, none⟩) G2.length c8).ownBlock from HPT.out.2) HGe.out (by decide)), Lib.hid (HKe.out.up (Loose.grown HPT.out.2 htag hgg1 (by decide) (by decide) (by decide))), Lib.hid (HAe.out.kept HPT.out.2 (fun k hk => HAe.out.apart HGe.out (by decide) k hk) (fun _ _ h => h)), Lib.hid HPT.out.1⟩, by simp [intOf]; omega⟩
      case true =>
      simp only [Bool.not_true] at HPT HNM HAL
      have hgj : gj = false := by
        cases gj
        · rfl
        · exact absurd (HRS.out rfl) (by decide)
      subst hgj
      obtain ⟨hv0, hv1, hv2, hv3, hv4, hv5⟩ := HVS.out rfl
      obtain ⟨m, rfl⟩ := Int.eq_ofNat_of_zero_le hv0
      simp only [Int.toNat_natCast] at hv2 hv3 hv4 hv5
      have hm : m < s'.seats.length := by omega
      have HX := Lib.hid (⟨hv2, hv3, hv4, hv5⟩ : (seatAt s' m).state = 2 ∧ oo = (seatAt s' m).owner ∧ tse = (seatAt s' m).serial ∧ tep = (seatAt s' m).epoch)
      clear hv0 hv1 hv2 hv3 hv4 hv5 HVS HRS
      go_upto_region 20 with fail
      have hbx := BE.out.grown HPT.out.2 BE.out.size (fun z hz => by injection hz with hz; omega)
      have htag : Tag e gg 4 := Tag.of_own HGe.out
      refine at_world (fun X => Below w.heap.size w X ∧ BoxN X q 29 hs.toArray ∧ MdKeep lo X F' s' ∧ Own tkR 54 lo X (.slice (some ⟨gt, 0, none⟩) als2.length c7) als2 ∧ Own boR 4 lo X (.slice (some ⟨gg, 0, none⟩) G2.length c8) (Gj.set j false)) ⟨hbx, HSe.out.kept_own (show e.grownBy _ (Value.slice (some ⟨gg, 0, none⟩) G2.length c8).ownBlock from HPT.out.2) HGe.out (by decide), HKe.out.up (Loose.grown HPT.out.2 htag hgg1 (by decide) (by decide) (by decide)), HAe.out.kept HPT.out.2 (fun k hk => HAe.out.apart HGe.out (by decide) k hk) (fun _ _ h => h), HPT.out.1⟩ fun f2 hf => ?_
      have BF := Lib.hid hf.1
      have HSf := Lib.hid hf.2.1
      have HKf := Lib.hid hf.2.2.1
      have HAf := Lib.hid hf.2.2.2.1
      have HGf := Lib.hid hf.2.2.2.2
      clear hf hbx htag BE HSe HKe HAe HGe HPT h0t h1t h2t h3t h0g h1g hgt3 hgg3
      obtain ⟨gt', tcs, hgq, _, hgt4, ⟨rfl, _⟩, hct, _⟩ := HAf.out.at_ hjl
      injection hgq with hgq
      injection hgq with hgq
      subst hgq
      have h0t := hct 0 _ rfl
      have h1t := hct 1 _ rfl
      have h2t := hct 2 _ rfl
      have h3t := hct 3 _ rfl
      simp only [HT.out, tkR, Nat.add_zero] at h0t h1t h2t h3t
      obtain ⟨bA, oA, hA, hbA, hrng, hx1⟩ := HKf.out.isMd.seatIn hm
      have m5 := (show BoxN f2 q 29 (mdCells F' s').toArray from HHS.out ▸ HSf.out).cell 5 (.slice F'.A s'.seats.length F'.ac) rfl
      rw [hA] at m5
      have zq := HSf.out.lt
      have d0 := hrng 0 _ rfl
      have d1 := hrng 1 _ rfl
      have d2 := hrng 2 _ rfl
      have d3 := hrng 3 _ rfl
      have d4 := hrng 4 _ rfl
      rw [Nat.add_zero] at d0
      have hm0 : (0 : Int) ≤ (m : Int) := by omega
      have hm1 : (m : Int) < (s'.seats.length : Int) := by omega
      clear hct hrng hx1 hA
      go_upto_region 21 with fail
      go_cut [15] from 67 to 157 (fun v W => ∃ bx, v = .pointer (some ⟨bx, 0, none⟩) ∧ Below f2.heap.size f2 W ∧ Cells W bx (sxCells (seatAt s' m)))
      case first => as_aux_lemma =>
        clear HAL HNM HX
        generalize seatAt s' m = sx at *
        go_big_region
        all_goals (go_wp2_with fail; go_meet)
        all_goals exact ⟨_, rfl, bdd (ba _ _), (Cells.newR _ (sxCells sx) _ _ rfl).drew⟩
      case rest =>
      obtain ⟨bx, rfl, hb, hcx⟩ := hcut
      rename World => g2
      have BG := Lib.hid (BF.out.trans (hb.mono BF.out.size))
      have HSg := Lib.hid (HSf.out.later hb)
      have HKg := Lib.hid (HKf.out.up (Loose.of hb))
      have HAg := Lib.hid (HAf.out.up hb)
      have HGg := Lib.hid (HGf.out.up hb)
      have h0t := cell_later hb h0t
      have h1t := cell_later hb h1t
      have h2t := cell_later hb h2t
      have h3t := cell_later hb h3t
      have hgt5 := Nat.lt_of_lt_of_le hgt4 hb.size
      have x0 := hcx.c 0 _ rfl
      have x1 := hcx.c 1 _ rfl
      have x3 := hcx.c 3 _ rfl
      have x4 := hcx.c 4 _ rfl
      have zx := hcx.lt
      rw [HX.out.1] at x0
      rw [← HX.out.2.1] at x1
      rw [← HX.out.2.2.1] at x3
      rw [← HX.out.2.2.2] at x4
      clear hb hcx BF HSf HKf HAf HGf m5 zq d0 d1 d2 d3 d4 hm0 hm1 hbA hgt4 HX
      go_upto_region 22 with fail
      go_quiet (fail)
      refine at_world (fun X => Below g2.heap.size g2 X) (bdN (Below.refl _ _) _) fun e2 hb => ?_
      have BH := Lib.hid (BG.out.trans (hb.mono BG.out.size))
      have HSh := Lib.hid (HSg.out.later hb)
      have HKh := Lib.hid (HKg.out.up (Loose.of hb))
      have HAh := Lib.hid (HAg.out.up hb)
      have HGh := Lib.hid (HGg.out.up hb)
      have h0t := cell_later hb h0t
      have hgt6 := Nat.lt_of_lt_of_le hgt5 hb.size
      clear hb BG HSg HKg HAg HGg h1t h2t h3t hgt5 x0 x1 x3 x4 zx
      go_wp2_with fail
      go_loopw [16] (fun iv wr => ∃ n : Nat, n ≤ j ∧ iv = .int .i64 (n : Int) ∧ Hid (Below e2.heap.size e2 wr)) (fun iv _ => j - (intOf iv).toNat)
      case atStart => exact ⟨0, by omega, rfl, Lib.hid (Below.refl _ _)⟩
      case round =>
        obtain ⟨n, hn, rfl, HR⟩ := hrel
        rename World => rw2
        have hb := HR.out
        have BI := Lib.hid (BH.out.trans (hb.mono BH.out.size))
        have HSi := Lib.hid (HSh.out.later hb)
        have HKi := Lib.hid (HKh.out.up (Loose.of hb))
        have HAi := Lib.hid (HAh.out.up hb)
        have HGi := Lib.hid (HGh.out.up hb)
        have h0t := cell_later hb h0t
        have hgt7 := Nat.lt_of_lt_of_le hgt6 hb.size
        clear hb BH HSh HKh HAh HGh hgt6
        by_cases hnj : n < j
        case neg => as_aux_lemma =>
          obtain rfl : n = j := by omega
          have tn : decide ((n : Int) < (n : Int)) = false := by simp
          clear h0t HAL
          go_wp2_with fail
          exact ⟨⟨n + 1, _, by omega, by go_num, Lib.hid ⟨by rw [List.length_set]; exact HMj.out.1, HNM.out⟩, BI, HSi, HKi, HAi, HGi⟩, by simp [intOf]; omega⟩
        case pos => as_aux_lemma =>
          have tn : decide ((n : Int) < (j : Int)) = true := decide_eq_true (by omega)
          have hnl : n < als2.length := by omega
          have hnG : n < (Gj.set j false).length := by rw [List.length_set]; omega
          have hn0 : (0 : Int) ≤ (n : Int) := by omega
          have hn1 : (n : Int) < (als2.length : Int) := by omega
          have hn2 : (n : Int) < (G2.length : Int) := by omega
          obtain ⟨_, tcs, hq1, _, hgt8, ⟨rfl, _⟩, hct, _⟩ := HAi.out.at_ hnl
          injection hq1 with hq1
          injection hq1 with hq1
          subst hq1
          have k0t := hct 0 _ rfl
          obtain ⟨_, gcs, hq2, _, hgg8, rfl, hcg, _⟩ := HGi.out.at_ hnG
          injection hq2 with hq2
          injection hq2 with hq2
          subst hq2
          have k0g := hcg 0 _ rfl
          simp only [tkR, boR, Nat.mul_one, Nat.add_zero] at k0t k0g
          have HE := Lib.hid (fun h => HAL.out n hnj hnG hnl trivial h)
          clear hct hcg HAL HNM
          generalize als2[n].seat = sn at *
          generalize (Gj.set j false)[n] = gn at *
          by_cases he : sn = (m : Int)
          · have t2 : (sn == (m : Int)) = true := by simpa using he
            have hg : gn = true := HE.out he
            subst hg
            subst he
            clear HE
            go_upto_region 27 with fail
            go_quiet (fail)
            go_wp2_with fail
            exact ⟨⟨n + 1, by omega, by go_num, Lib.hid (bdN HR.out _)⟩, by simp [intOf]; omega⟩
          · have t2 : (sn == (m : Int)) = false := by simpa using he
            clear HE he
            go_upto_region 27 with fail
            go_quiet (fail)
            go_wp2_with fail
            exact ⟨⟨n + 1, by omega, by go_num, Lib.hid (bdN HR.out _)⟩, by simp [intOf]; omega⟩
end Go.Proofs.YtinbjfkkpcpokaaGreatDoor
