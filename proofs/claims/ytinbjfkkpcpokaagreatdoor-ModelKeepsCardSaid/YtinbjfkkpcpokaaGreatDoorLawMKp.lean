/-
  Walk of the law ModelKeeps. Conditions: the pinned table lies where it was laid.
-/
import Derived.Test.YtinbjfkkpcpokaaGreatDoorLmC
import Derived.Test.YtinbjfkkpcpokaaGreatDoorLmD
import Derived.Test.YtinbjfkkpcpokaaGreatDoorLmE
namespace Go.Proofs.YtinbjfkkpcpokaaGreatDoor
open Go.RowKit

set_option maxRecDepth 20000 in
set_option maxHeartbeats 8000000 in
theorem lawKeeps_any {w : World} {V : Option Addr} {vc : Nat} {x : Ve} (hv : Sl secR w (.slice V x.secs.length vc) x.secs) (hb1 : Bd x.shards) (hb2 : Bd x.ttl) (hb3 : Bd x.session) {A : Option Addr} {c : Nat} {ops : List MOp} (ho : Sl opR w (.slice A ops.length c) ops) (hu : UsesAt w) :
    Calls Tryz.prog 8 #[.agg #[.int .i64 x.shards, .int .i64 x.ttl, .int .i64 x.session, .slice V x.secs.length vc], .slice A ops.length c] w fun e w' => e = .returned (.bool true) ∧ Below w.heap.size w w' := by
  have hcap := ho.cap
  have HO := Lib.hid ho
  have HU := Lib.hid hu
  have CW := Lib.hid (fun W (hb : Below w.heap.size w W) => wide_any (hv.up hb))
  have CN := Lib.hid (fun W (hb : Below w.heap.size w W) => new_any (hv.up hb) hb1 hb2 hb3)
  have HOK := Lib.hid (@newM_ok x)
  clear hv ho hu
  unfold NewPost at CN
  generalize newM x = M at CN HOK
  obtain ⟨s, E⟩ := M
  go_enter Tryz.func8, Tryz.ntmps8
  go_upto_region 1 with fail
  refine at_world (fun X => Below w.heap.size w X ∧ BoxN X w.heap.size 25 #[.int .i64 x.shards, .int .i64 x.ttl, .int .i64 x.session, .slice V x.secs.length vc]) ⟨ba _ _, BoxN.new _ _ _⟩ fun w0 hw0 => ?_
  have B0 := Lib.hid hw0.1
  have K0 := Lib.hid hw0.2
  clear hw0
  have a0 := K0.out.cell 0 _ rfl
  have a1 := K0.out.cell 1 _ rfl
  have a2 := K0.out.cell 2 _ rfl
  have a3 := K0.out.cell 3 _ rfl
  have z0 := K0.out.lt
  go_wp2_with fail
  refine (CW.out _ B0.out).mono ?_
  rintro e w1 ⟨b, rfl, hb⟩
  have B1 := Lib.hid (B0.out.trans (hb.mono B0.out.size))
  have K1 := Lib.hid (K0.out.later hb)
  clear hb a0 a1 a2 a3 z0 B0 K0 CW
  have a0 := K1.out.cell 0 _ rfl
  have a1 := K1.out.cell 1 _ rfl
  have a2 := K1.out.cell 2 _ rfl
  have a3 := K1.out.cell 3 _ rfl
  have z0 := K1.out.lt
  cases b
  case true =>
    go_wp2_with fail
    refine (shown_any _ (HU.out.up B1.out HU.out.1)).mono ?_
    rintro e w9 ⟨rfl, hb9⟩
    go_wp2_with fail
    go_ret
    exact ⟨rfl, B1.out.trans (hb9.mono B1.out.size)⟩
  by_cases h40 : 40 < ops.length
  · have t40 : decide ((40 : Int) < (ops.length : Int)) = true := decide_eq_true (by omega)
    go_wp2_with fail
    refine (shown_any _ (HU.out.up B1.out HU.out.1)).mono ?_
    rintro e w9 ⟨rfl, hb9⟩
    go_wp2_with fail
    go_ret
    exact ⟨rfl, B1.out.trans (hb9.mono B1.out.size)⟩
  have t40 : decide ((40 : Int) < (ops.length : Int)) = false := decide_eq_false (by omega)
  go_wp2_with fail
  refine (CN.out _ B1.out).mono ?_
  rintro e w2 ⟨F, rfl, hb, hI⟩
  have B2 := Lib.hid (B1.out.trans (hb.mono B1.out.size))
  have HI2 := Lib.hid hI
  clear hb hI a0 a1 a2 a3 z0 CN K1
  have S7A := Lib.hid (show (Tryz.prog.info? 29).map (·.size) = some (mdCells F s).toArray.size by kernel_rfl)
  have O7 := Lib.hid (show (mdCells F s).toArray.all (·.oneCell') = true by simp [mdCells, Value.oneCell'])
  have L7 := Lib.hid (show (mdCells F s).toArray.size = 7 by rfl)
  have MV := Lib.hid (show mdV F s = .agg (mdCells F s).toArray from rfl)
  simp only
  rw [MV.out]
  go_upto_region 4 with (refine wpList_store_row rfl 29 (.tmp 5) (.tmp 22) rfl w2.heap.size (mdCells F s).toArray rfl rfl 29 _ (BoxN.new _ _ _) S7A.out L7.out.symm O7.out ?_)
  obtain ⟨q, hq⟩ : ∃ q, w2.heap.size = q := ⟨_, rfl⟩
  rw [hq]
  have hbn : BoxN (w2.alloc (.cells #[.int .i64 0, .int .i64 0, .int .i64 0, .slice none 0 0, .int .i64 0, .slice none 0 0, .slice none 0 0] 29)) q 29 #[.int .i64 0, .int .i64 0, .int .i64 0, .slice none 0 0, .int .i64 0, .slice none 0 0, .slice none 0 0] := hq ▸ BoxN.new w2 29 #[.int .i64 0, .int .i64 0, .int .i64 0, .slice none 0 0, .int .i64 0, .slice none 0 0, .slice none 0 0]
  have hrow := grownBy_setRow hbn (mdCells F s).toArray
  refine at_world (fun X => Below w2.heap.size w2 X ∧ BoxN X q 29 (mdCells F s).toArray) ⟨(ba w2 (.cells #[.int .i64 0, .int .i64 0, .int .i64 0, .slice none 0 0, .int .i64 0, .slice none 0 0, .slice none 0 0] 29)).grown hrow.1 (by simp) (fun k hk => by injection hk with hk; omega), hrow.2⟩ fun w3 hw3 => ?_
  have B3 := Lib.hid (B2.out.trans (hw3.1.mono B2.out.size))
  have HK3 := Lib.hid (MdKeep.first HI2.out hw3.1)
  have K3 := Lib.hid hw3.2
  have hlq : w2.heap.size ≤ q := by omega
  have hwq : w.heap.size ≤ q := by have := B2.out.size; omega
  obtain ⟨lo, hlow⟩ : ∃ lo, w2.heap.size = lo := ⟨_, rfl⟩
  rw [hlow] at HK3 hlq
  clear hbn hrow hw3 HI2 S7A O7 L7 MV hq B2 hlow
  go_wp2_with fail
  go_loopw [7] (fun i wr => ∃ (k : Nat) (Fk : MFrm), k ≤ ops.length ∧ i = .int .i64 (k : Int) ∧ Hid (Below w.heap.size w wr) ∧ Hid (BoxN wr q 29 (mdCells Fk (stAt s ops k)).toArray) ∧ Hid (MdKeep lo wr Fk (stAt s ops k))) (fun i _ => ops.length - (intOf i).toNat)
  case atStart => exact ⟨0, F, by omega, rfl, B3, K3, HK3⟩
  case round =>
    obtain ⟨k, Fk, hk, rfl, HB, HS, HK⟩ := hrel
    rename World => wq
    have hloW : lo ≤ wq.heap.size := by have := HS.out.lt; omega
    by_cases hlt : k < ops.length
    case neg =>
      obtain rfl : k = ops.length := by omega
      have t0 : decide ((ops.length : Int) < (ops.length : Int)) = false := by simp
      go_wp2_with fail
      refine (shown_any _ (HU.out.up HB.out HU.out.1)).mono ?_
      rintro e w9 ⟨rfl, hb9⟩
      go_wp2_with fail
      go_ret
      exact ⟨rfl, HB.out.trans (hb9.mono HB.out.size)⟩
    have t0 : decide ((k : Int) < (ops.length : Int)) = true := decide_eq_true (by omega)
    by_cases hE : E = 0
    case neg =>
      have t1 : (E == 0) = false := by simpa using hE
      go_wp2_with fail
      refine (shown_any _ (HU.out.up HB.out HU.out.1)).mono ?_
      rintro e w9 ⟨rfl, hb9⟩
      go_wp2_with fail
      go_ret
      exact ⟨rfl, HB.out.trans (hb9.mono HB.out.size)⟩
    have OK := Lib.hid (HOK.out hE)
    subst hE
    have OKk := Lib.hid (show MdOk (stAt s ops k) from runTo_ok OK.out _)
    have HNX := Lib.hid (stAt_succ s hlt)
    have hk0 : (0 : Int) ≤ (k : Int) := by omega
    have hk1 : (k : Int) < (ops.length : Int) := by omega
    obtain ⟨bl, off, os, rfl, hbl, ⟨hos, hoo⟩, hat⟩ := (HO.out.up HB.out).at_ hlt
    have HAT := Lib.hid (show wq.rangeAt bl (off + k * 12) os from hat)
    have HOO := Lib.hid hoo
    have hat0 : wq.cell? ⟨bl, off + k * 12 + 0, none⟩ = some (.int .i64 ops[k].kind) := hat 0 _ (by rw [hos]; rfl)
    clear hat hoo
    rw [Nat.add_zero] at hat0
    have HDK := Lib.hid (doM_keeps (stAt s ops k) ops[k])
    have HDB := Lib.hid (doM_bare (stAt s ops k) ops[k])
    have CD := Lib.hid (fun W (hb : Below wq.heap.size wq W) => mDo_any lo Fk (stAt s ops k) ops[k] W (HK.out.up (Loose.of hb)) (Nat.le_trans hloW hb.size) (md_small OKk.out) HOO.out (HU.out.up (HB.out.trans (hb.mono HB.out.size)) HU.out.1))
    unfold MDoPost at CD
    rw [mdoM_ok OKk.out, ← hos] at CD
    have OKn := Lib.hid (OKk.out.do_ ops[k])
    have S2 := Lib.hid (show (Tryz.prog.info? 60).map (·.size) = some os.length by rw [hos]; kernel_rfl)
    generalize hop : ops[k] = op at CD HDK HDB HNX OKn hat0
    generalize doM (stAt s ops k) op = N at CD HDK HDB HNX OKn
    obtain ⟨s', r, f⟩ := N
    simp only at CD HDK HDB HNX OKn
    have HNS := Lib.hid (show stAt s ops (k + 1) = s' from HNX.out)
    generalize stAt s ops k = sk at HS HK OKk HDK CD
    have MVk := Lib.hid (show mdV Fk sk = .agg (mdCells Fk sk).toArray from rfl)
    have S7 := Lib.hid (show (Tryz.prog.info? 29).map (·.size) = some (mdCells Fk sk).length by kernel_rfl)
    rw [MVk.out] at CD
    obtain ⟨ms, hms⟩ : ∃ ms : List Value, ms = mdCells Fk sk := ⟨_, rfl⟩
    have LM := Lib.hid (show ms.toArray.size = 7 by rw [hms]; rfl)
    rw [← hms] at CD S7 HS
    have HMS := Lib.hid hms
    clear hms hos hop HOO HNX
    go_upto_region 7 with fail
    go_cut [8, 9, 10] from 24 to 86 (fun v8 v9 v10 W => ∃ b8 b9 F', v8 = .pointer (some ⟨b8, 0, none⟩) ∧ v9 = .pointer (some ⟨b9, 0, none⟩) ∧ v10 = .int .i64 f ∧ Below wq.heap.size wq W ∧ MdKeep lo W F' s' ∧ BoxN W b8 29 (mdCells F' s').toArray ∧ wq.heap.size ≤ b8 ∧ BoxN W b9 56 (rpCells r).toArray ∧ wq.heap.size ≤ b9)
    case first => as_aux_lemma =>
      refine wp_region_held (S := fun X => Below wq.heap.size wq X) (by kernel_rfl) ?_
      have HS0 : Below wq.heap.size wq wq.drew := bdd (Below.refl _ _)
      refine wpAnyH_take (i := 0) rfl (by decide +kernel) (by decide +kernel) (by decide +kernel) (fun _ _ _ h => h) (yieldsIf_load_mid rfl 29 (.tmp 5) rfl (q) (0) rfl (ms) _ (fun X hX => (HS.out.later hX).range2) Tryz.underlying29 rfl (S7.out)) HS0 ?_
      refine wpAnyH_take (i := 1) (v := .slice (some ⟨bl, off, none⟩) ops.length c) rfl (by decide +kernel) (by decide +kernel) (by decide +kernel) (fun _ _ _ h => h) (.inl ⟨rfl, fun W hS => by go_simp⟩) HS0 ?_
      refine wpAnyH_take (i := 2) (v := .int .i64 (k : Int)) rfl (by decide +kernel) (by decide +kernel) (by decide +kernel) (fun _ _ _ h => h) (.inl ⟨rfl, fun W hS => by go_simp⟩) HS0 ?_
      refine wpAnyH_take (i := 3) (v := .pointer (some ⟨bl, off + k * 12, none⟩)) rfl (by decide +kernel) (by decide +kernel) (by decide +kernel) (fun _ _ _ h => h) (.inl ⟨rfl, fun W hS => by go_simp⟩) HS0 ?_
      refine wpAnyH_take (i := 4) rfl (by decide +kernel) (by decide +kernel) (by decide +kernel) (fun _ _ _ h => h) (yieldsIf_load_mid rfl 60 (.tmp 38) rfl (bl) (off + k * 12) rfl (os) _ (fun X hX => range_later hX HAT.out) Tryz.underlying60 rfl (S2.out)) HS0 ?_
      refine wpAnyH_all (rs := [5, 10, 11]) (by kernel_rfl) (by simp) fun j hj => ?_
      simp only [List.mem_cons, List.not_mem_nil, or_false] at hj
      rcases hj with rfl | rfl | rfl
      · refine heldOp rfl fun K hK => ?_
        go_wp2_with fail
        refine (CD.out wq.drew HS0).mono ?_
        rintro e y ⟨F', rfl, hb, hk⟩
        have HF := Lib.hid (show MdKeep lo y F' s' from hk)
        clear hk
        have V9 := Lib.hid (show mdV F' s' = .agg (mdCells F' s').toArray from rfl)
        have V8 := Lib.hid (show RpV r = .agg (rpCells r).toArray from rfl)
        rw [V9.out, V8.out]
        obtain ⟨hs, hhs⟩ : ∃ hs : List Value, hs = mdCells F' s' := ⟨_, rfl⟩
        obtain ⟨rs, hrs⟩ : ∃ rs : List Value, rs = rpCells r := ⟨_, rfl⟩
        rw [← hhs, ← hrs]
        have HHS := Lib.hid hhs
        have HRS := Lib.hid hrs
        have S9A := Lib.hid (show (Tryz.prog.info? 29).map (·.size) = some hs.toArray.size by rw [hhs]; kernel_rfl)
        have L9 := Lib.hid (show hs.toArray.size = 7 by rw [hhs]; rfl)
        have O9 := Lib.hid (show hs.toArray.all (·.oneCell') = true by rw [hhs]; simp [mdCells, Value.oneCell'])
        have S8A := Lib.hid (show (Tryz.prog.info? 56).map (·.size) = some rs.toArray.size by rw [hrs]; kernel_rfl)
        have L8 := Lib.hid (show rs.toArray.size = 9 by rw [hrs]; rfl)
        have O8 := Lib.hid (show rs.toArray.all (·.oneCell') = true by rw [hrs]; simp [rpCells, Value.oneCell'])
        clear hhs hrs V9 V8
        go_wp2_with fail
        refine at_world (fun X => (Below wq.heap.size wq X) ∧ (MdKeep lo X F' s')) ⟨HS0.trans (hb.mono HS0.size), HF.out⟩ fun x1 hx1 => ?_
        have S1 := Lib.hid (hx1.1)
        have KK1 := Lib.hid (hx1.2)
        clear hx1
        clear hb HF
        refine hK.out _ _ ⟨S1.out, ?_⟩
        clear hK K
        refine wpAnyH_take (i := 6) (v := .tuple #[.agg hs.toArray, .agg rs.toArray, .int .i64 f]) rfl (by decide +kernel) (by decide +kernel) (by decide +kernel) (fun _ _ _ h => h) (.inl ⟨rfl, fun W hS => by go_simp⟩) S1.out ?_
        refine wpAnyH_take (i := 7) (v := .agg hs.toArray) rfl (by decide +kernel) (by decide +kernel) (by decide +kernel) (fun _ _ _ h => h) (.inl ⟨rfl, fun W hS => by go_simp⟩) S1.out ?_
        refine wpAnyH_take (i := 8) (v := .agg rs.toArray) rfl (by decide +kernel) (by decide +kernel) (by decide +kernel) (fun _ _ _ h => h) (.inl ⟨rfl, fun W hS => by go_simp⟩) S1.out ?_
        refine wpAnyH_take (i := 9) (v := .int .i64 f) rfl (by decide +kernel) (by decide +kernel) (by decide +kernel) (fun _ _ _ h => h) (.inl ⟨rfl, fun W hS => by go_simp⟩) S1.out ?_
        refine wpAnyH_all (rs := [10, 11]) (by kernel_rfl) (by simp) fun j hj => ?_
        simp only [List.mem_cons, List.not_mem_nil, or_false] at hj
        rcases hj with rfl | rfl
        · refine heldOp rfl fun K hK => ?_
          go_wp2_with fail
          obtain ⟨b8, hq8⟩ : ∃ q, x1.heap.size = q := ⟨_, rfl⟩
          try rw [hq8]
          refine at_world (fun X => (Below wq.heap.size wq X) ∧ (MdKeep lo X F' s') ∧ (BoxN X b8 29 #[.int .i64 0, .int .i64 0, .int .i64 0, .slice none 0 0, .int .i64 0, .slice none 0 0, .slice none 0 0] ∧ wq.heap.size ≤ b8)) ⟨S1.out.trans ((ba x1 (.cells #[.int .i64 0, .int .i64 0, .int .i64 0, .slice none 0 0, .int .i64 0, .slice none 0 0, .slice none 0 0] 29)).mono S1.out.size), KK1.out.up (Loose.of (ba x1 (.cells #[.int .i64 0, .int .i64 0, .int .i64 0, .slice none 0 0, .int .i64 0, .slice none 0 0, .slice none 0 0] 29))), ⟨(by rw [← hq8]; exact BoxN.new _ _ _), (by rw [← hq8]; exact S1.out.size)⟩⟩ fun x2 hx2 => ?_
          have S2 := Lib.hid (hx2.1)
          have KK2 := Lib.hid (hx2.2.1)
          have B82 := Lib.hid (hx2.2.2)
          clear hx2
          clear hq8
          clear S1 KK1
          refine hK.out _ _ ⟨S2.out, ?_⟩
          clear hK K
          refine wpAnyH_all (rs := [11]) (by kernel_rfl) (by simp) fun j hj => ?_
          obtain rfl : j = 11 := by simpa using hj
          clear hj
          refine heldOp rfl fun K hK => ?_
          go_wp2_with fail
          obtain ⟨b9, hq9⟩ : ∃ q, x2.heap.size = q := ⟨_, rfl⟩
          try rw [hq9]
          refine at_world (fun X => (Below wq.heap.size wq X) ∧ (MdKeep lo X F' s') ∧ (BoxN X b8 29 #[.int .i64 0, .int .i64 0, .int .i64 0, .slice none 0 0, .int .i64 0, .slice none 0 0, .slice none 0 0] ∧ wq.heap.size ≤ b8) ∧ (BoxN X b9 56 #[.int .i64 0, .int .i64 0, .int .i64 0, .int .i64 0, .int .u32 0, .int .u32 0, .int .u64 0, .int .u64 0, .int .i64 0] ∧ wq.heap.size ≤ b9) ∧ (b8 ≠ b9)) ⟨S2.out.trans ((ba x2 (.cells #[.int .i64 0, .int .i64 0, .int .i64 0, .int .i64 0, .int .u32 0, .int .u32 0, .int .u64 0, .int .u64 0, .int .i64 0] 56)).mono S2.out.size), KK2.out.up (Loose.of (ba x2 (.cells #[.int .i64 0, .int .i64 0, .int .i64 0, .int .i64 0, .int .u32 0, .int .u32 0, .int .u64 0, .int .u64 0, .int .i64 0] 56))), ⟨B82.out.1.alloc _, B82.out.2⟩, ⟨(by rw [← hq9]; exact BoxN.new _ _ _), (by rw [← hq9]; exact S2.out.size)⟩, (by have := B82.out.1.lt; omega)⟩ fun x3 hx3 => ?_
          have S3 := Lib.hid (hx3.1)
          have KK3 := Lib.hid (hx3.2.1)
          have B83 := Lib.hid (hx3.2.2.1)
          have B93 := Lib.hid (hx3.2.2.2.1)
          have N893 := Lib.hid (hx3.2.2.2.2)
          clear hx3
          clear hq9
          clear S2 KK2 B82
          refine hK.out _ _ ⟨S3.out, ?_⟩
          clear hK K
          refine wpAnyH_all (rs := [12]) (by kernel_rfl) (by simp) fun j hj => ?_
          obtain rfl : j = 12 := by simpa using hj
          clear hj
          refine heldOp rfl fun K hK => ?_
          go_wp2_with (refine wpList_store_row rfl 29 (.tmp 8) (.tmp 41) rfl b8 hs.toArray rfl rfl 29 _ B83.out.1 S9A.out L9.out.symm O9.out ?_)
          have hrow := grownBy_setRow B83.out.1 (hs.toArray)
          have htag := Tag.of_box B83.out.1
          have hle := B83.out.2
          refine at_world (fun X => (Below wq.heap.size wq X) ∧ (MdKeep lo X F' s') ∧ (BoxN X b8 29 hs.toArray ∧ wq.heap.size ≤ b8) ∧ (BoxN X b9 56 #[.int .i64 0, .int .i64 0, .int .i64 0, .int .i64 0, .int .u32 0, .int .u32 0, .int .u64 0, .int .u64 0, .int .i64 0] ∧ wq.heap.size ≤ b9) ∧ (b8 ≠ b9)) ⟨S3.out.grown hrow.1 S3.out.size (fun k hk => by injection hk with hk; omega), KK3.out.up (Loose.grown hrow.1 htag (by omega) (by decide) (by decide) (by decide)), ⟨hrow.2, hle⟩, ⟨B93.out.1.kept hrow.1 (fun e => N893.out.symm (by injection e)), B93.out.2⟩, N893.out⟩ fun x4 hx4 => ?_
          have S4 := Lib.hid (hx4.1)
          have KK4 := Lib.hid (hx4.2.1)
          have B84 := Lib.hid (hx4.2.2.1)
          have B94 := Lib.hid (hx4.2.2.2.1)
          have N894 := Lib.hid (hx4.2.2.2.2)
          clear hx4
          clear hrow htag hle
          clear S3 KK3 B83 B93 N893
          refine hK.out _ _ ⟨S4.out, ?_⟩
          clear hK K
          refine wpAnyH_all (rs := [13]) (by kernel_rfl) (by simp) fun j hj => ?_
          obtain rfl : j = 13 := by simpa using hj
          clear hj
          refine heldOp rfl fun K hK => ?_
          go_wp2_with (refine wpList_store_row rfl 56 (.tmp 9) (.tmp 42) rfl b9 rs.toArray rfl rfl 56 _ B94.out.1 S8A.out L8.out.symm O8.out ?_)
          have hrow := grownBy_setRow B94.out.1 (rs.toArray)
          have htag := Tag.of_box B94.out.1
          have hle := B94.out.2
          refine at_world (fun X => (Below wq.heap.size wq X) ∧ (MdKeep lo X F' s') ∧ (BoxN X b8 29 hs.toArray ∧ wq.heap.size ≤ b8) ∧ (BoxN X b9 56 rs.toArray ∧ wq.heap.size ≤ b9) ∧ (b8 ≠ b9)) ⟨S4.out.grown hrow.1 S4.out.size (fun k hk => by injection hk with hk; omega), KK4.out.up (Loose.grown hrow.1 htag (by omega) (by decide) (by decide) (by decide)), ⟨B84.out.1.kept hrow.1 (fun e => N894.out (by injection e)), B84.out.2⟩, ⟨hrow.2, hle⟩, N894.out⟩ fun x5 hx5 => ?_
          have S5 := Lib.hid (hx5.1)
          have KK5 := Lib.hid (hx5.2.1)
          have B85 := Lib.hid (hx5.2.2.1)
          have B95 := Lib.hid (hx5.2.2.2.1)
          have N895 := Lib.hid (hx5.2.2.2.2)
          clear hx5
          clear hrow htag hle
          clear S4 KK4 B84 B94 N894
          refine hK.out _ _ ⟨S5.out, ?_⟩
          clear hK K
          refine wpAnyH_take (i := 14) (v := .int .i64 f) rfl (by decide +kernel) (by decide +kernel) (by decide +kernel) (fun _ _ _ h => h) (.inl ⟨rfl, fun W hS => by go_simp⟩) S5.out ?_
          refine wpAnyH_done (by kernel_rfl) ?_ _
          go_wp2_with fail
          go_meet
          exact ⟨_, _, F', rfl, rfl, rfl, S5.out, KK5.out, by rw [← HHS.out]; exact B85.out.1, B85.out.2, by rw [← HRS.out]; exact B95.out.1, B95.out.2⟩
        · refine heldOp rfl fun K hK => ?_
          go_wp2_with fail
          obtain ⟨b9, hq9⟩ : ∃ q, x1.heap.size = q := ⟨_, rfl⟩
          try rw [hq9]
          refine at_world (fun X => (Below wq.heap.size wq X) ∧ (MdKeep lo X F' s') ∧ (BoxN X b9 56 #[.int .i64 0, .int .i64 0, .int .i64 0, .int .i64 0, .int .u32 0, .int .u32 0, .int .u64 0, .int .u64 0, .int .i64 0] ∧ wq.heap.size ≤ b9)) ⟨S1.out.trans ((ba x1 (.cells #[.int .i64 0, .int .i64 0, .int .i64 0, .int .i64 0, .int .u32 0, .int .u32 0, .int .u64 0, .int .u64 0, .int .i64 0] 56)).mono S1.out.size), KK1.out.up (Loose.of (ba x1 (.cells #[.int .i64 0, .int .i64 0, .int .i64 0, .int .i64 0, .int .u32 0, .int .u32 0, .int .u64 0, .int .u64 0, .int .i64 0] 56))), ⟨(by rw [← hq9]; exact BoxN.new _ _ _), (by rw [← hq9]; exact S1.out.size)⟩⟩ fun x2 hx2 => ?_
          have S2 := Lib.hid (hx2.1)
          have KK2 := Lib.hid (hx2.2.1)
          have B92 := Lib.hid (hx2.2.2)
          clear hx2
          clear hq9
          clear S1 KK1
          refine hK.out _ _ ⟨S2.out, ?_⟩
          clear hK K
          refine wpAnyH_all (rs := [10]) (by kernel_rfl) (by simp) fun j hj => ?_
          obtain rfl : j = 10 := by simpa using hj
          clear hj
          refine heldOp rfl fun K hK => ?_
          go_wp2_with fail
          obtain ⟨b8, hq8⟩ : ∃ q, x2.heap.size = q := ⟨_, rfl⟩
          try rw [hq8]
          refine at_world (fun X => (Below wq.heap.size wq X) ∧ (MdKeep lo X F' s') ∧ (BoxN X b8 29 #[.int .i64 0, .int .i64 0, .int .i64 0, .slice none 0 0, .int .i64 0, .slice none 0 0, .slice none 0 0] ∧ wq.heap.size ≤ b8) ∧ (BoxN X b9 56 #[.int .i64 0, .int .i64 0, .int .i64 0, .int .i64 0, .int .u32 0, .int .u32 0, .int .u64 0, .int .u64 0, .int .i64 0] ∧ wq.heap.size ≤ b9) ∧ (b8 ≠ b9)) ⟨S2.out.trans ((ba x2 (.cells #[.int .i64 0, .int .i64 0, .int .i64 0, .slice none 0 0, .int .i64 0, .slice none 0 0, .slice none 0 0] 29)).mono S2.out.size), KK2.out.up (Loose.of (ba x2 (.cells #[.int .i64 0, .int .i64 0, .int .i64 0, .slice none 0 0, .int .i64 0, .slice none 0 0, .slice none 0 0] 29))), ⟨(by rw [← hq8]; exact BoxN.new _ _ _), (by rw [← hq8]; exact S2.out.size)⟩, ⟨B92.out.1.alloc _, B92.out.2⟩, (by have := B92.out.1.lt; omega)⟩ fun x3 hx3 => ?_
          have S3 := Lib.hid (hx3.1)
          have KK3 := Lib.hid (hx3.2.1)
          have B83 := Lib.hid (hx3.2.2.1)
          have B93 := Lib.hid (hx3.2.2.2.1)
          have N893 := Lib.hid (hx3.2.2.2.2)
          clear hx3
          clear hq8
          clear S2 KK2 B92
          refine hK.out _ _ ⟨S3.out, ?_⟩
          clear hK K
          refine wpAnyH_all (rs := [12]) (by kernel_rfl) (by simp) fun j hj => ?_
          obtain rfl : j = 12 := by simpa using hj
          clear hj
          refine heldOp rfl fun K hK => ?_
          go_wp2_with (refine wpList_store_row rfl 29 (.tmp 8) (.tmp 41) rfl b8 hs.toArray rfl rfl 29 _ B83.out.1 S9A.out L9.out.symm O9.out ?_)
          have hrow := grownBy_setRow B83.out.1 (hs.toArray)
          have htag := Tag.of_box B83.out.1
          have hle := B83.out.2
          refine at_world (fun X => (Below wq.heap.size wq X) ∧ (MdKeep lo X F' s') ∧ (BoxN X b8 29 hs.toArray ∧ wq.heap.size ≤ b8) ∧ (BoxN X b9 56 #[.int .i64 0, .int .i64 0, .int .i64 0, .int .i64 0, .int .u32 0, .int .u32 0, .int .u64 0, .int .u64 0, .int .i64 0] ∧ wq.heap.size ≤ b9) ∧ (b8 ≠ b9)) ⟨S3.out.grown hrow.1 S3.out.size (fun k hk => by injection hk with hk; omega), KK3.out.up (Loose.grown hrow.1 htag (by omega) (by decide) (by decide) (by decide)), ⟨hrow.2, hle⟩, ⟨B93.out.1.kept hrow.1 (fun e => N893.out.symm (by injection e)), B93.out.2⟩, N893.out⟩ fun x4 hx4 => ?_
          have S4 := Lib.hid (hx4.1)
          have KK4 := Lib.hid (hx4.2.1)
          have B84 := Lib.hid (hx4.2.2.1)
          have B94 := Lib.hid (hx4.2.2.2.1)
          have N894 := Lib.hid (hx4.2.2.2.2)
          clear hx4
          clear hrow htag hle
          clear S3 KK3 B83 B93 N893
          refine hK.out _ _ ⟨S4.out, ?_⟩
          clear hK K
          refine wpAnyH_all (rs := [13]) (by kernel_rfl) (by simp) fun j hj => ?_
          obtain rfl : j = 13 := by simpa using hj
          clear hj
          refine heldOp rfl fun K hK => ?_
          go_wp2_with (refine wpList_store_row rfl 56 (.tmp 9) (.tmp 42) rfl b9 rs.toArray rfl rfl 56 _ B94.out.1 S8A.out L8.out.symm O8.out ?_)
          have hrow := grownBy_setRow B94.out.1 (rs.toArray)
          have htag := Tag.of_box B94.out.1
          have hle := B94.out.2
          refine at_world (fun X => (Below wq.heap.size wq X) ∧ (MdKeep lo X F' s') ∧ (BoxN X b8 29 hs.toArray ∧ wq.heap.size ≤ b8) ∧ (BoxN X b9 56 rs.toArray ∧ wq.heap.size ≤ b9) ∧ (b8 ≠ b9)) ⟨S4.out.grown hrow.1 S4.out.size (fun k hk => by injection hk with hk; omega), KK4.out.up (Loose.grown hrow.1 htag (by omega) (by decide) (by decide) (by decide)), ⟨B84.out.1.kept hrow.1 (fun e => N894.out (by injection e)), B84.out.2⟩, ⟨hrow.2, hle⟩, N894.out⟩ fun x5 hx5 => ?_
          have S5 := Lib.hid (hx5.1)
          have KK5 := Lib.hid (hx5.2.1)
          have B85 := Lib.hid (hx5.2.2.1)
          have B95 := Lib.hid (hx5.2.2.2.1)
          have N895 := Lib.hid (hx5.2.2.2.2)
          clear hx5
          clear hrow htag hle
          clear S4 KK4 B84 B94 N894
          refine hK.out _ _ ⟨S5.out, ?_⟩
          clear hK K
          refine wpAnyH_take (i := 14) (v := .int .i64 f) rfl (by decide +kernel) (by decide +kernel) (by decide +kernel) (fun _ _ _ h => h) (.inl ⟨rfl, fun W hS => by go_simp⟩) S5.out ?_
          refine wpAnyH_done (by kernel_rfl) ?_ _
          go_wp2_with fail
          go_meet
          exact ⟨_, _, F', rfl, rfl, rfl, S5.out, KK5.out, by rw [← HHS.out]; exact B85.out.1, B85.out.2, by rw [← HRS.out]; exact B95.out.1, B95.out.2⟩
      · refine heldOp rfl fun K hK => ?_
        go_wp2_with fail
        obtain ⟨b8, hq8⟩ : ∃ q, wq.heap.size = q := ⟨_, rfl⟩
        try rw [hq8]
        refine at_world (fun X => (Below wq.heap.size wq X) ∧ (BoxN X b8 29 #[.int .i64 0, .int .i64 0, .int .i64 0, .slice none 0 0, .int .i64 0, .slice none 0 0, .slice none 0 0] ∧ wq.heap.size ≤ b8)) ⟨HS0.trans ((ba wq.drew (.cells #[.int .i64 0, .int .i64 0, .int .i64 0, .slice none 0 0, .int .i64 0, .slice none 0 0, .slice none 0 0] 29)).mono HS0.size), ⟨(by rw [← hq8]; exact BoxN.new _ _ _), (by rw [← hq8]; exact HS0.size)⟩⟩ fun x1 hx1 => ?_
        have S1 := Lib.hid (hx1.1)
        have B81 := Lib.hid (hx1.2)
        clear hx1
        clear hq8
        refine hK.out _ _ ⟨S1.out, ?_⟩
        clear hK K
        refine wpAnyH_all (rs := [5, 11]) (by kernel_rfl) (by simp) fun j hj => ?_
        simp only [List.mem_cons, List.not_mem_nil, or_false] at hj
        rcases hj with rfl | rfl
        · refine heldOp rfl fun K hK => ?_
          go_wp2_with fail
          refine (CD.out x1 S1.out).mono ?_
          rintro e y ⟨F', rfl, hb, hk⟩
          have HF := Lib.hid (show MdKeep lo y F' s' from hk)
          clear hk
          have V9 := Lib.hid (show mdV F' s' = .agg (mdCells F' s').toArray from rfl)
          have V8 := Lib.hid (show RpV r = .agg (rpCells r).toArray from rfl)
          rw [V9.out, V8.out]
          obtain ⟨hs, hhs⟩ : ∃ hs : List Value, hs = mdCells F' s' := ⟨_, rfl⟩
          obtain ⟨rs, hrs⟩ : ∃ rs : List Value, rs = rpCells r := ⟨_, rfl⟩
          rw [← hhs, ← hrs]
          have HHS := Lib.hid hhs
          have HRS := Lib.hid hrs
          have S9A := Lib.hid (show (Tryz.prog.info? 29).map (·.size) = some hs.toArray.size by rw [hhs]; kernel_rfl)
          have L9 := Lib.hid (show hs.toArray.size = 7 by rw [hhs]; rfl)
          have O9 := Lib.hid (show hs.toArray.all (·.oneCell') = true by rw [hhs]; simp [mdCells, Value.oneCell'])
          have S8A := Lib.hid (show (Tryz.prog.info? 56).map (·.size) = some rs.toArray.size by rw [hrs]; kernel_rfl)
          have L8 := Lib.hid (show rs.toArray.size = 9 by rw [hrs]; rfl)
          have O8 := Lib.hid (show rs.toArray.all (·.oneCell') = true by rw [hrs]; simp [rpCells, Value.oneCell'])
          clear hhs hrs V9 V8
          go_wp2_with fail
          refine at_world (fun X => (Below wq.heap.size wq X) ∧ (MdKeep lo X F' s') ∧ (BoxN X b8 29 #[.int .i64 0, .int .i64 0, .int .i64 0, .slice none 0 0, .int .i64 0, .slice none 0 0, .slice none 0 0] ∧ wq.heap.size ≤ b8)) ⟨S1.out.trans (hb.mono S1.out.size), HF.out, ⟨B81.out.1.later hb, B81.out.2⟩⟩ fun x2 hx2 => ?_
          have S2 := Lib.hid (hx2.1)
          have KK2 := Lib.hid (hx2.2.1)
          have B82 := Lib.hid (hx2.2.2)
          clear hx2
          clear hb HF
          clear S1 B81
          refine hK.out _ _ ⟨S2.out, ?_⟩
          clear hK K
          refine wpAnyH_take (i := 6) (v := .tuple #[.agg hs.toArray, .agg rs.toArray, .int .i64 f]) rfl (by decide +kernel) (by decide +kernel) (by decide +kernel) (fun _ _ _ h => h) (.inl ⟨rfl, fun W hS => by go_simp⟩) S2.out ?_
          refine wpAnyH_take (i := 7) (v := .agg hs.toArray) rfl (by decide +kernel) (by decide +kernel) (by decide +kernel) (fun _ _ _ h => h) (.inl ⟨rfl, fun W hS => by go_simp⟩) S2.out ?_
          refine wpAnyH_take (i := 8) (v := .agg rs.toArray) rfl (by decide +kernel) (by decide +kernel) (by decide +kernel) (fun _ _ _ h => h) (.inl ⟨rfl, fun W hS => by go_simp⟩) S2.out ?_
          refine wpAnyH_take (i := 9) (v := .int .i64 f) rfl (by decide +kernel) (by decide +kernel) (by decide +kernel) (fun _ _ _ h => h) (.inl ⟨rfl, fun W hS => by go_simp⟩) S2.out ?_
          refine wpAnyH_all (rs := [11]) (by kernel_rfl) (by simp) fun j hj => ?_
          obtain rfl : j = 11 := by simpa using hj
          clear hj
          refine heldOp rfl fun K hK => ?_
          go_wp2_with fail
          obtain ⟨b9, hq9⟩ : ∃ q, x2.heap.size = q := ⟨_, rfl⟩
          try rw [hq9]
          refine at_world (fun X => (Below wq.heap.size wq X) ∧ (MdKeep lo X F' s') ∧ (BoxN X b8 29 #[.int .i64 0, .int .i64 0, .int .i64 0, .slice none 0 0, .int .i64 0, .slice none 0 0, .slice none 0 0] ∧ wq.heap.size ≤ b8) ∧ (BoxN X b9 56 #[.int .i64 0, .int .i64 0, .int .i64 0, .int .i64 0, .int .u32 0, .int .u32 0, .int .u64 0, .int .u64 0, .int .i64 0] ∧ wq.heap.size ≤ b9) ∧ (b8 ≠ b9)) ⟨S2.out.trans ((ba x2 (.cells #[.int .i64 0, .int .i64 0, .int .i64 0, .int .i64 0, .int .u32 0, .int .u32 0, .int .u64 0, .int .u64 0, .int .i64 0] 56)).mono S2.out.size), KK2.out.up (Loose.of (ba x2 (.cells #[.int .i64 0, .int .i64 0, .int .i64 0, .int .i64 0, .int .u32 0, .int .u32 0, .int .u64 0, .int .u64 0, .int .i64 0] 56))), ⟨B82.out.1.alloc _, B82.out.2⟩, ⟨(by rw [← hq9]; exact BoxN.new _ _ _), (by rw [← hq9]; exact S2.out.size)⟩, (by have := B82.out.1.lt; omega)⟩ fun x3 hx3 => ?_
          have S3 := Lib.hid (hx3.1)
          have KK3 := Lib.hid (hx3.2.1)
          have B83 := Lib.hid (hx3.2.2.1)
          have B93 := Lib.hid (hx3.2.2.2.1)
          have N893 := Lib.hid (hx3.2.2.2.2)
          clear hx3
          clear hq9
          clear S2 KK2 B82
          refine hK.out _ _ ⟨S3.out, ?_⟩
          clear hK K
          refine wpAnyH_all (rs := [12]) (by kernel_rfl) (by simp) fun j hj => ?_
          obtain rfl : j = 12 := by simpa using hj
          clear hj
          refine heldOp rfl fun K hK => ?_
          go_wp2_with (refine wpList_store_row rfl 29 (.tmp 8) (.tmp 41) rfl b8 hs.toArray rfl rfl 29 _ B83.out.1 S9A.out L9.out.symm O9.out ?_)
          have hrow := grownBy_setRow B83.out.1 (hs.toArray)
          have htag := Tag.of_box B83.out.1
          have hle := B83.out.2
          refine at_world (fun X => (Below wq.heap.size wq X) ∧ (MdKeep lo X F' s') ∧ (BoxN X b8 29 hs.toArray ∧ wq.heap.size ≤ b8) ∧ (BoxN X b9 56 #[.int .i64 0, .int .i64 0, .int .i64 0, .int .i64 0, .int .u32 0, .int .u32 0, .int .u64 0, .int .u64 0, .int .i64 0] ∧ wq.heap.size ≤ b9) ∧ (b8 ≠ b9)) ⟨S3.out.grown hrow.1 S3.out.size (fun k hk => by injection hk with hk; omega), KK3.out.up (Loose.grown hrow.1 htag (by omega) (by decide) (by decide) (by decide)), ⟨hrow.2, hle⟩, ⟨B93.out.1.kept hrow.1 (fun e => N893.out.symm (by injection e)), B93.out.2⟩, N893.out⟩ fun x4 hx4 => ?_
          have S4 := Lib.hid (hx4.1)
          have KK4 := Lib.hid (hx4.2.1)
          have B84 := Lib.hid (hx4.2.2.1)
          have B94 := Lib.hid (hx4.2.2.2.1)
          have N894 := Lib.hid (hx4.2.2.2.2)
          clear hx4
          clear hrow htag hle
          clear S3 KK3 B83 B93 N893
          refine hK.out _ _ ⟨S4.out, ?_⟩
          clear hK K
          refine wpAnyH_all (rs := [13]) (by kernel_rfl) (by simp) fun j hj => ?_
          obtain rfl : j = 13 := by simpa using hj
          clear hj
          refine heldOp rfl fun K hK => ?_
          go_wp2_with (refine wpList_store_row rfl 56 (.tmp 9) (.tmp 42) rfl b9 rs.toArray rfl rfl 56 _ B94.out.1 S8A.out L8.out.symm O8.out ?_)
          have hrow := grownBy_setRow B94.out.1 (rs.toArray)
          have htag := Tag.of_box B94.out.1
          have hle := B94.out.2
          refine at_world (fun X => (Below wq.heap.size wq X) ∧ (MdKeep lo X F' s') ∧ (BoxN X b8 29 hs.toArray ∧ wq.heap.size ≤ b8) ∧ (BoxN X b9 56 rs.toArray ∧ wq.heap.size ≤ b9) ∧ (b8 ≠ b9)) ⟨S4.out.grown hrow.1 S4.out.size (fun k hk => by injection hk with hk; omega), KK4.out.up (Loose.grown hrow.1 htag (by omega) (by decide) (by decide) (by decide)), ⟨B84.out.1.kept hrow.1 (fun e => N894.out (by injection e)), B84.out.2⟩, ⟨hrow.2, hle⟩, N894.out⟩ fun x5 hx5 => ?_
          have S5 := Lib.hid (hx5.1)
          have KK5 := Lib.hid (hx5.2.1)
          have B85 := Lib.hid (hx5.2.2.1)
          have B95 := Lib.hid (hx5.2.2.2.1)
          have N895 := Lib.hid (hx5.2.2.2.2)
          clear hx5
          clear hrow htag hle
          clear S4 KK4 B84 B94 N894
          refine hK.out _ _ ⟨S5.out, ?_⟩
          clear hK K
          refine wpAnyH_take (i := 14) (v := .int .i64 f) rfl (by decide +kernel) (by decide +kernel) (by decide +kernel) (fun _ _ _ h => h) (.inl ⟨rfl, fun W hS => by go_simp⟩) S5.out ?_
          refine wpAnyH_done (by kernel_rfl) ?_ _
          go_wp2_with fail
          go_meet
          exact ⟨_, _, F', rfl, rfl, rfl, S5.out, KK5.out, by rw [← HHS.out]; exact B85.out.1, B85.out.2, by rw [← HRS.out]; exact B95.out.1, B95.out.2⟩
        · refine heldOp rfl fun K hK => ?_
          go_wp2_with fail
          obtain ⟨b9, hq9⟩ : ∃ q, x1.heap.size = q := ⟨_, rfl⟩
          try rw [hq9]
          refine at_world (fun X => (Below wq.heap.size wq X) ∧ (BoxN X b8 29 #[.int .i64 0, .int .i64 0, .int .i64 0, .slice none 0 0, .int .i64 0, .slice none 0 0, .slice none 0 0] ∧ wq.heap.size ≤ b8) ∧ (BoxN X b9 56 #[.int .i64 0, .int .i64 0, .int .i64 0, .int .i64 0, .int .u32 0, .int .u32 0, .int .u64 0, .int .u64 0, .int .i64 0] ∧ wq.heap.size ≤ b9) ∧ (b8 ≠ b9)) ⟨S1.out.trans ((ba x1 (.cells #[.int .i64 0, .int .i64 0, .int .i64 0, .int .i64 0, .int .u32 0, .int .u32 0, .int .u64 0, .int .u64 0, .int .i64 0] 56)).mono S1.out.size), ⟨B81.out.1.alloc _, B81.out.2⟩, ⟨(by rw [← hq9]; exact BoxN.new _ _ _), (by rw [← hq9]; exact S1.out.size)⟩, (by have := B81.out.1.lt; omega)⟩ fun x2 hx2 => ?_
          have S2 := Lib.hid (hx2.1)
          have B82 := Lib.hid (hx2.2.1)
          have B92 := Lib.hid (hx2.2.2.1)
          have N892 := Lib.hid (hx2.2.2.2)
          clear hx2
          clear hq9
          clear S1 B81
          refine hK.out _ _ ⟨S2.out, ?_⟩
          clear hK K
          refine wpAnyH_all (rs := [5]) (by kernel_rfl) (by simp) fun j hj => ?_
          obtain rfl : j = 5 := by simpa using hj
          clear hj
          refine heldOp rfl fun K hK => ?_
          go_wp2_with fail
          refine (CD.out x2 S2.out).mono ?_
          rintro e y ⟨F', rfl, hb, hk⟩
          have HF := Lib.hid (show MdKeep lo y F' s' from hk)
          clear hk
          have V9 := Lib.hid (show mdV F' s' = .agg (mdCells F' s').toArray from rfl)
          have V8 := Lib.hid (show RpV r = .agg (rpCells r).toArray from rfl)
          rw [V9.out, V8.out]
          obtain ⟨hs, hhs⟩ : ∃ hs : List Value, hs = mdCells F' s' := ⟨_, rfl⟩
          obtain ⟨rs, hrs⟩ : ∃ rs : List Value, rs = rpCells r := ⟨_, rfl⟩
          rw [← hhs, ← hrs]
          have HHS := Lib.hid hhs
          have HRS := Lib.hid hrs
          have S9A := Lib.hid (show (Tryz.prog.info? 29).map (·.size) = some hs.toArray.size by rw [hhs]; kernel_rfl)
          have L9 := Lib.hid (show hs.toArray.size = 7 by rw [hhs]; rfl)
          have O9 := Lib.hid (show hs.toArray.all (·.oneCell') = true by rw [hhs]; simp [mdCells, Value.oneCell'])
          have S8A := Lib.hid (show (Tryz.prog.info? 56).map (·.size) = some rs.toArray.size by rw [hrs]; kernel_rfl)
          have L8 := Lib.hid (show rs.toArray.size = 9 by rw [hrs]; rfl)
          have O8 := Lib.hid (show rs.toArray.all (·.oneCell') = true by rw [hrs]; simp [rpCells, Value.oneCell'])
          clear hhs hrs V9 V8
          go_wp2_with fail
          refine at_world (fun X => (Below wq.heap.size wq X) ∧ (MdKeep lo X F' s') ∧ (BoxN X b8 29 #[.int .i64 0, .int .i64 0, .int .i64 0, .slice none 0 0, .int .i64 0, .slice none 0 0, .slice none 0 0] ∧ wq.heap.size ≤ b8) ∧ (BoxN X b9 56 #[.int .i64 0, .int .i64 0, .int .i64 0, .int .i64 0, .int .u32 0, .int .u32 0, .int .u64 0, .int .u64 0, .int .i64 0] ∧ wq.heap.size ≤ b9) ∧ (b8 ≠ b9)) ⟨S2.out.trans (hb.mono S2.out.size), HF.out, ⟨B82.out.1.later hb, B82.out.2⟩, ⟨B92.out.1.later hb, B92.out.2⟩, N892.out⟩ fun x3 hx3 => ?_
          have S3 := Lib.hid (hx3.1)
          have KK3 := Lib.hid (hx3.2.1)
          have B83 := Lib.hid (hx3.2.2.1)
          have B93 := Lib.hid (hx3.2.2.2.1)
          have N893 := Lib.hid (hx3.2.2.2.2)
          clear hx3
          clear hb HF
          clear S2 B82 B92 N892
          refine hK.out _ _ ⟨S3.out, ?_⟩
          clear hK K
          refine wpAnyH_take (i := 6) (v := .tuple #[.agg hs.toArray, .agg rs.toArray, .int .i64 f]) rfl (by decide +kernel) (by decide +kernel) (by decide +kernel) (fun _ _ _ h => h) (.inl ⟨rfl, fun W hS => by go_simp⟩) S3.out ?_
          refine wpAnyH_take (i := 7) (v := .agg hs.toArray) rfl (by decide +kernel) (by decide +kernel) (by decide +kernel) (fun _ _ _ h => h) (.inl ⟨rfl, fun W hS => by go_simp⟩) S3.out ?_
          refine wpAnyH_take (i := 8) (v := .agg rs.toArray) rfl (by decide +kernel) (by decide +kernel) (by decide +kernel) (fun _ _ _ h => h) (.inl ⟨rfl, fun W hS => by go_simp⟩) S3.out ?_
          refine wpAnyH_take (i := 9) (v := .int .i64 f) rfl (by decide +kernel) (by decide +kernel) (by decide +kernel) (fun _ _ _ h => h) (.inl ⟨rfl, fun W hS => by go_simp⟩) S3.out ?_
          refine wpAnyH_all (rs := [12]) (by kernel_rfl) (by simp) fun j hj => ?_
          obtain rfl : j = 12 := by simpa using hj
          clear hj
          refine heldOp rfl fun K hK => ?_
          go_wp2_with (refine wpList_store_row rfl 29 (.tmp 8) (.tmp 41) rfl b8 hs.toArray rfl rfl 29 _ B83.out.1 S9A.out L9.out.symm O9.out ?_)
          have hrow := grownBy_setRow B83.out.1 (hs.toArray)
          have htag := Tag.of_box B83.out.1
          have hle := B83.out.2
          refine at_world (fun X => (Below wq.heap.size wq X) ∧ (MdKeep lo X F' s') ∧ (BoxN X b8 29 hs.toArray ∧ wq.heap.size ≤ b8) ∧ (BoxN X b9 56 #[.int .i64 0, .int .i64 0, .int .i64 0, .int .i64 0, .int .u32 0, .int .u32 0, .int .u64 0, .int .u64 0, .int .i64 0] ∧ wq.heap.size ≤ b9) ∧ (b8 ≠ b9)) ⟨S3.out.grown hrow.1 S3.out.size (fun k hk => by injection hk with hk; omega), KK3.out.up (Loose.grown hrow.1 htag (by omega) (by decide) (by decide) (by decide)), ⟨hrow.2, hle⟩, ⟨B93.out.1.kept hrow.1 (fun e => N893.out.symm (by injection e)), B93.out.2⟩, N893.out⟩ fun x4 hx4 => ?_
          have S4 := Lib.hid (hx4.1)
          have KK4 := Lib.hid (hx4.2.1)
          have B84 := Lib.hid (hx4.2.2.1)
          have B94 := Lib.hid (hx4.2.2.2.1)
          have N894 := Lib.hid (hx4.2.2.2.2)
          clear hx4
          clear hrow htag hle
          clear S3 KK3 B83 B93 N893
          refine hK.out _ _ ⟨S4.out, ?_⟩
          clear hK K
          refine wpAnyH_all (rs := [13]) (by kernel_rfl) (by simp) fun j hj => ?_
          obtain rfl : j = 13 := by simpa using hj
          clear hj
          refine heldOp rfl fun K hK => ?_
          go_wp2_with (refine wpList_store_row rfl 56 (.tmp 9) (.tmp 42) rfl b9 rs.toArray rfl rfl 56 _ B94.out.1 S8A.out L8.out.symm O8.out ?_)
          have hrow := grownBy_setRow B94.out.1 (rs.toArray)
          have htag := Tag.of_box B94.out.1
          have hle := B94.out.2
          refine at_world (fun X => (Below wq.heap.size wq X) ∧ (MdKeep lo X F' s') ∧ (BoxN X b8 29 hs.toArray ∧ wq.heap.size ≤ b8) ∧ (BoxN X b9 56 rs.toArray ∧ wq.heap.size ≤ b9) ∧ (b8 ≠ b9)) ⟨S4.out.grown hrow.1 S4.out.size (fun k hk => by injection hk with hk; omega), KK4.out.up (Loose.grown hrow.1 htag (by omega) (by decide) (by decide) (by decide)), ⟨B84.out.1.kept hrow.1 (fun e => N894.out (by injection e)), B84.out.2⟩, ⟨hrow.2, hle⟩, N894.out⟩ fun x5 hx5 => ?_
          have S5 := Lib.hid (hx5.1)
          have KK5 := Lib.hid (hx5.2.1)
          have B85 := Lib.hid (hx5.2.2.1)
          have B95 := Lib.hid (hx5.2.2.2.1)
          have N895 := Lib.hid (hx5.2.2.2.2)
          clear hx5
          clear hrow htag hle
          clear S4 KK4 B84 B94 N894
          refine hK.out _ _ ⟨S5.out, ?_⟩
          clear hK K
          refine wpAnyH_take (i := 14) (v := .int .i64 f) rfl (by decide +kernel) (by decide +kernel) (by decide +kernel) (fun _ _ _ h => h) (.inl ⟨rfl, fun W hS => by go_simp⟩) S5.out ?_
          refine wpAnyH_done (by kernel_rfl) ?_ _
          go_wp2_with fail
          go_meet
          exact ⟨_, _, F', rfl, rfl, rfl, S5.out, KK5.out, by rw [← HHS.out]; exact B85.out.1, B85.out.2, by rw [← HRS.out]; exact B95.out.1, B95.out.2⟩
      · refine heldOp rfl fun K hK => ?_
        go_wp2_with fail
        obtain ⟨b9, hq9⟩ : ∃ q, wq.heap.size = q := ⟨_, rfl⟩
        try rw [hq9]
        refine at_world (fun X => (Below wq.heap.size wq X) ∧ (BoxN X b9 56 #[.int .i64 0, .int .i64 0, .int .i64 0, .int .i64 0, .int .u32 0, .int .u32 0, .int .u64 0, .int .u64 0, .int .i64 0] ∧ wq.heap.size ≤ b9)) ⟨HS0.trans ((ba wq.drew (.cells #[.int .i64 0, .int .i64 0, .int .i64 0, .int .i64 0, .int .u32 0, .int .u32 0, .int .u64 0, .int .u64 0, .int .i64 0] 56)).mono HS0.size), ⟨(by rw [← hq9]; exact BoxN.new _ _ _), (by rw [← hq9]; exact HS0.size)⟩⟩ fun x1 hx1 => ?_
        have S1 := Lib.hid (hx1.1)
        have B91 := Lib.hid (hx1.2)
        clear hx1
        clear hq9
        refine hK.out _ _ ⟨S1.out, ?_⟩
        clear hK K
        refine wpAnyH_all (rs := [5, 10]) (by kernel_rfl) (by simp) fun j hj => ?_
        simp only [List.mem_cons, List.not_mem_nil, or_false] at hj
        rcases hj with rfl | rfl
        · refine heldOp rfl fun K hK => ?_
          go_wp2_with fail
          refine (CD.out x1 S1.out).mono ?_
          rintro e y ⟨F', rfl, hb, hk⟩
          have HF := Lib.hid (show MdKeep lo y F' s' from hk)
          clear hk
          have V9 := Lib.hid (show mdV F' s' = .agg (mdCells F' s').toArray from rfl)
          have V8 := Lib.hid (show RpV r = .agg (rpCells r).toArray from rfl)
          rw [V9.out, V8.out]
          obtain ⟨hs, hhs⟩ : ∃ hs : List Value, hs = mdCells F' s' := ⟨_, rfl⟩
          obtain ⟨rs, hrs⟩ : ∃ rs : List Value, rs = rpCells r := ⟨_, rfl⟩
          rw [← hhs, ← hrs]
          have HHS := Lib.hid hhs
          have HRS := Lib.hid hrs
          have S9A := Lib.hid (show (Tryz.prog.info? 29).map (·.size) = some hs.toArray.size by rw [hhs]; kernel_rfl)
          have L9 := Lib.hid (show hs.toArray.size = 7 by rw [hhs]; rfl)
          have O9 := Lib.hid (show hs.toArray.all (·.oneCell') = true by rw [hhs]; simp [mdCells, Value.oneCell'])
          have S8A := Lib.hid (show (Tryz.prog.info? 56).map (·.size) = some rs.toArray.size by rw [hrs]; kernel_rfl)
          have L8 := Lib.hid (show rs.toArray.size = 9 by rw [hrs]; rfl)
          have O8 := Lib.hid (show rs.toArray.all (·.oneCell') = true by rw [hrs]; simp [rpCells, Value.oneCell'])
          clear hhs hrs V9 V8
          go_wp2_with fail
          refine at_world (fun X => (Below wq.heap.size wq X) ∧ (MdKeep lo X F' s') ∧ (BoxN X b9 56 #[.int .i64 0, .int .i64 0, .int .i64 0, .int .i64 0, .int .u32 0, .int .u32 0, .int .u64 0, .int .u64 0, .int .i64 0] ∧ wq.heap.size ≤ b9)) ⟨S1.out.trans (hb.mono S1.out.size), HF.out, ⟨B91.out.1.later hb, B91.out.2⟩⟩ fun x2 hx2 => ?_
          have S2 := Lib.hid (hx2.1)
          have KK2 := Lib.hid (hx2.2.1)
          have B92 := Lib.hid (hx2.2.2)
          clear hx2
          clear hb HF
          clear S1 B91
          refine hK.out _ _ ⟨S2.out, ?_⟩
          clear hK K
          refine wpAnyH_take (i := 6) (v := .tuple #[.agg hs.toArray, .agg rs.toArray, .int .i64 f]) rfl (by decide +kernel) (by decide +kernel) (by decide +kernel) (fun _ _ _ h => h) (.inl ⟨rfl, fun W hS => by go_simp⟩) S2.out ?_
          refine wpAnyH_take (i := 7) (v := .agg hs.toArray) rfl (by decide +kernel) (by decide +kernel) (by decide +kernel) (fun _ _ _ h => h) (.inl ⟨rfl, fun W hS => by go_simp⟩) S2.out ?_
          refine wpAnyH_take (i := 8) (v := .agg rs.toArray) rfl (by decide +kernel) (by decide +kernel) (by decide +kernel) (fun _ _ _ h => h) (.inl ⟨rfl, fun W hS => by go_simp⟩) S2.out ?_
          refine wpAnyH_take (i := 9) (v := .int .i64 f) rfl (by decide +kernel) (by decide +kernel) (by decide +kernel) (fun _ _ _ h => h) (.inl ⟨rfl, fun W hS => by go_simp⟩) S2.out ?_
          refine wpAnyH_all (rs := [10]) (by kernel_rfl) (by simp) fun j hj => ?_
          obtain rfl : j = 10 := by simpa using hj
          clear hj
          refine heldOp rfl fun K hK => ?_
          go_wp2_with fail
          obtain ⟨b8, hq8⟩ : ∃ q, x2.heap.size = q := ⟨_, rfl⟩
          try rw [hq8]
          refine at_world (fun X => (Below wq.heap.size wq X) ∧ (MdKeep lo X F' s') ∧ (BoxN X b8 29 #[.int .i64 0, .int .i64 0, .int .i64 0, .slice none 0 0, .int .i64 0, .slice none 0 0, .slice none 0 0] ∧ wq.heap.size ≤ b8) ∧ (BoxN X b9 56 #[.int .i64 0, .int .i64 0, .int .i64 0, .int .i64 0, .int .u32 0, .int .u32 0, .int .u64 0, .int .u64 0, .int .i64 0] ∧ wq.heap.size ≤ b9) ∧ (b8 ≠ b9)) ⟨S2.out.trans ((ba x2 (.cells #[.int .i64 0, .int .i64 0, .int .i64 0, .slice none 0 0, .int .i64 0, .slice none 0 0, .slice none 0 0] 29)).mono S2.out.size), KK2.out.up (Loose.of (ba x2 (.cells #[.int .i64 0, .int .i64 0, .int .i64 0, .slice none 0 0, .int .i64 0, .slice none 0 0, .slice none 0 0] 29))), ⟨(by rw [← hq8]; exact BoxN.new _ _ _), (by rw [← hq8]; exact S2.out.size)⟩, ⟨B92.out.1.alloc _, B92.out.2⟩, (by have := B92.out.1.lt; omega)⟩ fun x3 hx3 => ?_
          have S3 := Lib.hid (hx3.1)
          have KK3 := Lib.hid (hx3.2.1)
          have B83 := Lib.hid (hx3.2.2.1)
          have B93 := Lib.hid (hx3.2.2.2.1)
          have N893 := Lib.hid (hx3.2.2.2.2)
          clear hx3
          clear hq8
          clear S2 KK2 B92
          refine hK.out _ _ ⟨S3.out, ?_⟩
          clear hK K
          refine wpAnyH_all (rs := [12]) (by kernel_rfl) (by simp) fun j hj => ?_
          obtain rfl : j = 12 := by simpa using hj
          clear hj
          refine heldOp rfl fun K hK => ?_
          go_wp2_with (refine wpList_store_row rfl 29 (.tmp 8) (.tmp 41) rfl b8 hs.toArray rfl rfl 29 _ B83.out.1 S9A.out L9.out.symm O9.out ?_)
          have hrow := grownBy_setRow B83.out.1 (hs.toArray)
          have htag := Tag.of_box B83.out.1
          have hle := B83.out.2
          refine at_world (fun X => (Below wq.heap.size wq X) ∧ (MdKeep lo X F' s') ∧ (BoxN X b8 29 hs.toArray ∧ wq.heap.size ≤ b8) ∧ (BoxN X b9 56 #[.int .i64 0, .int .i64 0, .int .i64 0, .int .i64 0, .int .u32 0, .int .u32 0, .int .u64 0, .int .u64 0, .int .i64 0] ∧ wq.heap.size ≤ b9) ∧ (b8 ≠ b9)) ⟨S3.out.grown hrow.1 S3.out.size (fun k hk => by injection hk with hk; omega), KK3.out.up (Loose.grown hrow.1 htag (by omega) (by decide) (by decide) (by decide)), ⟨hrow.2, hle⟩, ⟨B93.out.1.kept hrow.1 (fun e => N893.out.symm (by injection e)), B93.out.2⟩, N893.out⟩ fun x4 hx4 => ?_
          have S4 := Lib.hid (hx4.1)
          have KK4 := Lib.hid (hx4.2.1)
          have B84 := Lib.hid (hx4.2.2.1)
          have B94 := Lib.hid (hx4.2.2.2.1)
          have N894 := Lib.hid (hx4.2.2.2.2)
          clear hx4
          clear hrow htag hle
          clear S3 KK3 B83 B93 N893
          refine hK.out _ _ ⟨S4.out, ?_⟩
          clear hK K
          refine wpAnyH_all (rs := [13]) (by kernel_rfl) (by simp) fun j hj => ?_
          obtain rfl : j = 13 := by simpa using hj
          clear hj
          refine heldOp rfl fun K hK => ?_
          go_wp2_with (refine wpList_store_row rfl 56 (.tmp 9) (.tmp 42) rfl b9 rs.toArray rfl rfl 56 _ B94.out.1 S8A.out L8.out.symm O8.out ?_)
          have hrow := grownBy_setRow B94.out.1 (rs.toArray)
          have htag := Tag.of_box B94.out.1
          have hle := B94.out.2
          refine at_world (fun X => (Below wq.heap.size wq X) ∧ (MdKeep lo X F' s') ∧ (BoxN X b8 29 hs.toArray ∧ wq.heap.size ≤ b8) ∧ (BoxN X b9 56 rs.toArray ∧ wq.heap.size ≤ b9) ∧ (b8 ≠ b9)) ⟨S4.out.grown hrow.1 S4.out.size (fun k hk => by injection hk with hk; omega), KK4.out.up (Loose.grown hrow.1 htag (by omega) (by decide) (by decide) (by decide)), ⟨B84.out.1.kept hrow.1 (fun e => N894.out (by injection e)), B84.out.2⟩, ⟨hrow.2, hle⟩, N894.out⟩ fun x5 hx5 => ?_
          have S5 := Lib.hid (hx5.1)
          have KK5 := Lib.hid (hx5.2.1)
          have B85 := Lib.hid (hx5.2.2.1)
          have B95 := Lib.hid (hx5.2.2.2.1)
          have N895 := Lib.hid (hx5.2.2.2.2)
          clear hx5
          clear hrow htag hle
          clear S4 KK4 B84 B94 N894
          refine hK.out _ _ ⟨S5.out, ?_⟩
          clear hK K
          refine wpAnyH_take (i := 14) (v := .int .i64 f) rfl (by decide +kernel) (by decide +kernel) (by decide +kernel) (fun _ _ _ h => h) (.inl ⟨rfl, fun W hS => by go_simp⟩) S5.out ?_
          refine wpAnyH_done (by kernel_rfl) ?_ _
          go_wp2_with fail
          go_meet
          exact ⟨_, _, F', rfl, rfl, rfl, S5.out, KK5.out, by rw [← HHS.out]; exact B85.out.1, B85.out.2, by rw [← HRS.out]; exact B95.out.1, B95.out.2⟩
        · refine heldOp rfl fun K hK => ?_
          go_wp2_with fail
          obtain ⟨b8, hq8⟩ : ∃ q, x1.heap.size = q := ⟨_, rfl⟩
          try rw [hq8]
          refine at_world (fun X => (Below wq.heap.size wq X) ∧ (BoxN X b8 29 #[.int .i64 0, .int .i64 0, .int .i64 0, .slice none 0 0, .int .i64 0, .slice none 0 0, .slice none 0 0] ∧ wq.heap.size ≤ b8) ∧ (BoxN X b9 56 #[.int .i64 0, .int .i64 0, .int .i64 0, .int .i64 0, .int .u32 0, .int .u32 0, .int .u64 0, .int .u64 0, .int .i64 0] ∧ wq.heap.size ≤ b9) ∧ (b8 ≠ b9)) ⟨S1.out.trans ((ba x1 (.cells #[.int .i64 0, .int .i64 0, .int .i64 0, .slice none 0 0, .int .i64 0, .slice none 0 0, .slice none 0 0] 29)).mono S1.out.size), ⟨(by rw [← hq8]; exact BoxN.new _ _ _), (by rw [← hq8]; exact S1.out.size)⟩, ⟨B91.out.1.alloc _, B91.out.2⟩, (by have := B91.out.1.lt; omega)⟩ fun x2 hx2 => ?_
          have S2 := Lib.hid (hx2.1)
          have B82 := Lib.hid (hx2.2.1)
          have B92 := Lib.hid (hx2.2.2.1)
          have N892 := Lib.hid (hx2.2.2.2)
          clear hx2
          clear hq8
          clear S1 B91
          refine hK.out _ _ ⟨S2.out, ?_⟩
          clear hK K
          refine wpAnyH_all (rs := [5]) (by kernel_rfl) (by simp) fun j hj => ?_
          obtain rfl : j = 5 := by simpa using hj
          clear hj
          refine heldOp rfl fun K hK => ?_
          go_wp2_with fail
          refine (CD.out x2 S2.out).mono ?_
          rintro e y ⟨F', rfl, hb, hk⟩
          have HF := Lib.hid (show MdKeep lo y F' s' from hk)
          clear hk
          have V9 := Lib.hid (show mdV F' s' = .agg (mdCells F' s').toArray from rfl)
          have V8 := Lib.hid (show RpV r = .agg (rpCells r).toArray from rfl)
          rw [V9.out, V8.out]
          obtain ⟨hs, hhs⟩ : ∃ hs : List Value, hs = mdCells F' s' := ⟨_, rfl⟩
          obtain ⟨rs, hrs⟩ : ∃ rs : List Value, rs = rpCells r := ⟨_, rfl⟩
          rw [← hhs, ← hrs]
          have HHS := Lib.hid hhs
          have HRS := Lib.hid hrs
          have S9A := Lib.hid (show (Tryz.prog.info? 29).map (·.size) = some hs.toArray.size by rw [hhs]; kernel_rfl)
          have L9 := Lib.hid (show hs.toArray.size = 7 by rw [hhs]; rfl)
          have O9 := Lib.hid (show hs.toArray.all (·.oneCell') = true by rw [hhs]; simp [mdCells, Value.oneCell'])
          have S8A := Lib.hid (show (Tryz.prog.info? 56).map (·.size) = some rs.toArray.size by rw [hrs]; kernel_rfl)
          have L8 := Lib.hid (show rs.toArray.size = 9 by rw [hrs]; rfl)
          have O8 := Lib.hid (show rs.toArray.all (·.oneCell') = true by rw [hrs]; simp [rpCells, Value.oneCell'])
          clear hhs hrs V9 V8
          go_wp2_with fail
          refine at_world (fun X => (Below wq.heap.size wq X) ∧ (MdKeep lo X F' s') ∧ (BoxN X b8 29 #[.int .i64 0, .int .i64 0, .int .i64 0, .slice none 0 0, .int .i64 0, .slice none 0 0, .slice none 0 0] ∧ wq.heap.size ≤ b8) ∧ (BoxN X b9 56 #[.int .i64 0, .int .i64 0, .int .i64 0, .int .i64 0, .int .u32 0, .int .u32 0, .int .u64 0, .int .u64 0, .int .i64 0] ∧ wq.heap.size ≤ b9) ∧ (b8 ≠ b9)) ⟨S2.out.trans (hb.mono S2.out.size), HF.out, ⟨B82.out.1.later hb, B82.out.2⟩, ⟨B92.out.1.later hb, B92.out.2⟩, N892.out⟩ fun x3 hx3 => ?_
          have S3 := Lib.hid (hx3.1)
          have KK3 := Lib.hid (hx3.2.1)
          have B83 := Lib.hid (hx3.2.2.1)
          have B93 := Lib.hid (hx3.2.2.2.1)
          have N893 := Lib.hid (hx3.2.2.2.2)
          clear hx3
          clear hb HF
          clear S2 B82 B92 N892
          refine hK.out _ _ ⟨S3.out, ?_⟩
          clear hK K
          refine wpAnyH_take (i := 6) (v := .tuple #[.agg hs.toArray, .agg rs.toArray, .int .i64 f]) rfl (by decide +kernel) (by decide +kernel) (by decide +kernel) (fun _ _ _ h => h) (.inl ⟨rfl, fun W hS => by go_simp⟩) S3.out ?_
          refine wpAnyH_take (i := 7) (v := .agg hs.toArray) rfl (by decide +kernel) (by decide +kernel) (by decide +kernel) (fun _ _ _ h => h) (.inl ⟨rfl, fun W hS => by go_simp⟩) S3.out ?_
          refine wpAnyH_take (i := 8) (v := .agg rs.toArray) rfl (by decide +kernel) (by decide +kernel) (by decide +kernel) (fun _ _ _ h => h) (.inl ⟨rfl, fun W hS => by go_simp⟩) S3.out ?_
          refine wpAnyH_take (i := 9) (v := .int .i64 f) rfl (by decide +kernel) (by decide +kernel) (by decide +kernel) (fun _ _ _ h => h) (.inl ⟨rfl, fun W hS => by go_simp⟩) S3.out ?_
          refine wpAnyH_all (rs := [12]) (by kernel_rfl) (by simp) fun j hj => ?_
          obtain rfl : j = 12 := by simpa using hj
          clear hj
          refine heldOp rfl fun K hK => ?_
          go_wp2_with (refine wpList_store_row rfl 29 (.tmp 8) (.tmp 41) rfl b8 hs.toArray rfl rfl 29 _ B83.out.1 S9A.out L9.out.symm O9.out ?_)
          have hrow := grownBy_setRow B83.out.1 (hs.toArray)
          have htag := Tag.of_box B83.out.1
          have hle := B83.out.2
          refine at_world (fun X => (Below wq.heap.size wq X) ∧ (MdKeep lo X F' s') ∧ (BoxN X b8 29 hs.toArray ∧ wq.heap.size ≤ b8) ∧ (BoxN X b9 56 #[.int .i64 0, .int .i64 0, .int .i64 0, .int .i64 0, .int .u32 0, .int .u32 0, .int .u64 0, .int .u64 0, .int .i64 0] ∧ wq.heap.size ≤ b9) ∧ (b8 ≠ b9)) ⟨S3.out.grown hrow.1 S3.out.size (fun k hk => by injection hk with hk; omega), KK3.out.up (Loose.grown hrow.1 htag (by omega) (by decide) (by decide) (by decide)), ⟨hrow.2, hle⟩, ⟨B93.out.1.kept hrow.1 (fun e => N893.out.symm (by injection e)), B93.out.2⟩, N893.out⟩ fun x4 hx4 => ?_
          have S4 := Lib.hid (hx4.1)
          have KK4 := Lib.hid (hx4.2.1)
          have B84 := Lib.hid (hx4.2.2.1)
          have B94 := Lib.hid (hx4.2.2.2.1)
          have N894 := Lib.hid (hx4.2.2.2.2)
          clear hx4
          clear hrow htag hle
          clear S3 KK3 B83 B93 N893
          refine hK.out _ _ ⟨S4.out, ?_⟩
          clear hK K
          refine wpAnyH_all (rs := [13]) (by kernel_rfl) (by simp) fun j hj => ?_
          obtain rfl : j = 13 := by simpa using hj
          clear hj
          refine heldOp rfl fun K hK => ?_
          go_wp2_with (refine wpList_store_row rfl 56 (.tmp 9) (.tmp 42) rfl b9 rs.toArray rfl rfl 56 _ B94.out.1 S8A.out L8.out.symm O8.out ?_)
          have hrow := grownBy_setRow B94.out.1 (rs.toArray)
          have htag := Tag.of_box B94.out.1
          have hle := B94.out.2
          refine at_world (fun X => (Below wq.heap.size wq X) ∧ (MdKeep lo X F' s') ∧ (BoxN X b8 29 hs.toArray ∧ wq.heap.size ≤ b8) ∧ (BoxN X b9 56 rs.toArray ∧ wq.heap.size ≤ b9) ∧ (b8 ≠ b9)) ⟨S4.out.grown hrow.1 S4.out.size (fun k hk => by injection hk with hk; omega), KK4.out.up (Loose.grown hrow.1 htag (by omega) (by decide) (by decide) (by decide)), ⟨B84.out.1.kept hrow.1 (fun e => N894.out (by injection e)), B84.out.2⟩, ⟨hrow.2, hle⟩, N894.out⟩ fun x5 hx5 => ?_
          have S5 := Lib.hid (hx5.1)
          have KK5 := Lib.hid (hx5.2.1)
          have B85 := Lib.hid (hx5.2.2.1)
          have B95 := Lib.hid (hx5.2.2.2.1)
          have N895 := Lib.hid (hx5.2.2.2.2)
          clear hx5
          clear hrow htag hle
          clear S4 KK4 B84 B94 N894
          refine hK.out _ _ ⟨S5.out, ?_⟩
          clear hK K
          refine wpAnyH_take (i := 14) (v := .int .i64 f) rfl (by decide +kernel) (by decide +kernel) (by decide +kernel) (fun _ _ _ h => h) (.inl ⟨rfl, fun W hS => by go_simp⟩) S5.out ?_
          refine wpAnyH_done (by kernel_rfl) ?_ _
          go_wp2_with fail
          go_meet
          exact ⟨_, _, F', rfl, rfl, rfl, S5.out, KK5.out, by rw [← HHS.out]; exact B85.out.1, B85.out.2, by rw [← HRS.out]; exact B95.out.1, B95.out.2⟩
    case rest =>
      obtain ⟨b8, b9, F', rfl, rfl, rfl, hb, hkn, h8, hl8, h9, hl9⟩ := hcut
      have D := Lib.hid hb
      have BW := Lib.hid (HB.out.trans (hb.mono HB.out.size))
      have HSc := Lib.hid (HS.out.later hb)
      have HKc := Lib.hid (HK.out.up (Loose.of hb))
      have HKn := Lib.hid hkn
      have H9 := Lib.hid h9
      have k0 := cell_later hb hat0
      have hblc := Nat.lt_of_lt_of_le hbl hb.size
      have CC := Lib.hid (fun W (hb : Below wc.heap.size wc W) => mcheck_any F' s' W (hkn.isMd.up hb) (md_small OKn.out))
      rw [checkM_ok.2 OKn.out] at CC
      have CSm := Lib.hid (fun (he : s' = sk) W (hb : Below wc.heap.size wc W) => sameMd_any (F := Fk) (G := F') (HKc.out.isMd.up hb) (he ▸ hkn.isMd.up hb))
      have MVn := Lib.hid (show mdV F' s' = .agg (mdCells F' s').toArray from rfl)
      have S8 := Lib.hid (show (Tryz.prog.info? 29).map (·.size) = some (mdCells F' s').length by kernel_rfl)
      have S8A := Lib.hid (show (Tryz.prog.info? 29).map (·.size) = some (mdCells F' s').toArray.size by kernel_rfl)
      have O8 := Lib.hid (show (mdCells F' s').toArray.all (·.oneCell') = true by simp [mdCells, Value.oneCell'])
      have L8 := Lib.hid (show (mdCells F' s').toArray.size = 7 by rfl)
      have CSn := Lib.hid (show ∀ (he : s' = sk) W, Below wc.heap.size wc W → Calls Tryz.prog 27 #[.agg ms.toArray, .agg (mdCells F' s').toArray] W fun e w' => e = .returned (.bool true) ∧ Below W.heap.size W w' from fun he W hb => by
        have h := CSm.out he W hb
        rw [MVk.out, ← HMS.out] at h
        subst he
        exact h)
      rw [MVn.out] at CC
      obtain ⟨hs, hhs⟩ : ∃ hs : List Value, hs = mdCells F' s' := ⟨_, rfl⟩
      rw [← hhs] at CC CSn S8 S8A O8 L8 h8
      have H8 := Lib.hid h8
      have HHS := Lib.hid hhs
      clear hb hkn h8 h9 hhs CSm CD HK hat0 hbl HAT
      go_wp2_with (refine wpList_load_mid rfl 29 (.tmp 8) rfl b8 0 rfl hs _ H8.out.range2 Tryz.underlying29 rfl S8.out ?_)
      refine (CC.out _ (Below.refl _ _)).mono ?_
      rintro e w6 ⟨rfl, hb⟩
      have D6 := Lib.hid hb
      have B6 := Lib.hid (BW.out.trans (hb.mono BW.out.size))
      have HS6 := Lib.hid (HSc.out.later hb)
      have H86 := Lib.hid (H8.out.later hb)
      have H96 := Lib.hid (H9.out.later hb)
      have HK6 := Lib.hid (HKn.out.up (Loose.of hb))
      have k06 := cell_later hb k0
      have hbl6 := Nat.lt_of_lt_of_le hblc hb.size
      have CS6 := Lib.hid (fun he W (h2 : Below w6.heap.size w6 W) => CSn.out he W (hb.trans (h2.mono hb.size)))
      have u0 := H96.out.cell 0 (.int .i64 r.err) rfl
      have z9 := H96.out.lt
      clear hb CC CSn H8 H9 HSc HKn k0 hblc BW
      go_upto_region 10 with fail
      go_cut [75] from 24 to 86 (fun v W => v = .bool false ∧ Below w6.heap.size w6 W)
      case first => as_aux_lemma =>
        by_cases hf : f = 0
        case neg =>
          have t1 : (f != 0) = true := by simpa using hf
          have CS := Lib.hid (CS6.out (HDK.out (.inl hf)))
          clear hf CS6 HDK HDB
          go_wp2_with (first | refine wpList_load_midg rfl 29 (.tmp 5) rfl q 0 rfl ms _ HS6.out.range2 Tryz.underlying29 rfl S7.out ?_ | refine wpList_load_midg rfl 29 (.tmp 8) rfl b8 0 rfl hs _ H86.out.range2 Tryz.underlying29 rfl S8.out ?_)
          refine (CS.out _ (Below.refl _ _)).mono ?_
          rintro e w7 ⟨rfl, hb⟩
          go_wp2_with fail
          go_meet
          exact ⟨rfl, hb⟩
        have t1 : (f != 0) = false := by simpa using hf
        by_cases her : r.err = 0
        case neg =>
          have t2 : (r.err != 0) = true := by simpa using her
          have CS := Lib.hid (CS6.out (HDK.out (.inr (.inl her))))
          clear hf her CS6 HDK HDB
          go_wp2_with (first | refine wpList_load_midg rfl 29 (.tmp 5) rfl q 0 rfl ms _ HS6.out.range2 Tryz.underlying29 rfl S7.out ?_ | refine wpList_load_midg rfl 29 (.tmp 8) rfl b8 0 rfl hs _ H86.out.range2 Tryz.underlying29 rfl S8.out ?_)
          refine (CS.out _ (Below.refl _ _)).mono ?_
          rintro e w7 ⟨rfl, hb⟩
          go_wp2_with fail
          go_meet
          exact ⟨rfl, hb⟩
        have t2 : (r.err != 0) = false := by simpa using her
        by_cases h1 : op.kind = 1
        case pos =>
          have t3 : (op.kind == 1) = true := by simpa using h1
          have CS := Lib.hid (CS6.out (HDK.out (.inr (.inr (.inl h1)))))
          clear hf her h1 CS6 HDK HDB
          go_wp2_with (first | refine wpList_load_midg rfl 29 (.tmp 5) rfl q 0 rfl ms _ HS6.out.range2 Tryz.underlying29 rfl S7.out ?_ | refine wpList_load_midg rfl 29 (.tmp 8) rfl b8 0 rfl hs _ H86.out.range2 Tryz.underlying29 rfl S8.out ?_)
          refine (CS.out _ (Below.refl _ _)).mono ?_
          rintro e w7 ⟨rfl, hb⟩
          go_wp2_with fail
          go_meet
          exact ⟨rfl, hb⟩
        have t3 : (op.kind == 1) = false := by simpa using h1
        by_cases h9 : op.kind = 9
        case pos =>
          have t4 : (op.kind == 9) = true := by simpa using h9
          have CS := Lib.hid (CS6.out (HDK.out (.inr (.inr (.inr h9)))))
          clear hf her h1 h9 CS6 HDK HDB
          go_wp2_with (first | refine wpList_load_midg rfl 29 (.tmp 5) rfl q 0 rfl ms _ HS6.out.range2 Tryz.underlying29 rfl S7.out ?_ | refine wpList_load_midg rfl 29 (.tmp 8) rfl b8 0 rfl hs _ H86.out.range2 Tryz.underlying29 rfl S8.out ?_)
          refine (CS.out _ (Below.refl _ _)).mono ?_
          rintro e w7 ⟨rfl, hb⟩
          go_wp2_with fail
          go_meet
          exact ⟨rfl, hb⟩
        have t4 : (op.kind == 9) = false := by simpa using h9
        clear hf her h1 h9
        go_wp2_with fail
        go_meet
        exact ⟨rfl, Below.refl _ _⟩
      case rest =>
        obtain ⟨rfl, hb⟩ := hcut
        have B7 := Lib.hid (B6.out.trans (hb.mono B6.out.size))
        have HS7 := Lib.hid (HS6.out.later hb)
        have H87 := Lib.hid (H86.out.later hb)
        have H97 := Lib.hid (H96.out.later hb)
        have HK7 := Lib.hid (HK6.out.up (Loose.of hb))
        clear hb u0 z9 k06 hbl6 CS6 HS6 H86 H96 HK6 B6
        obtain ⟨er, se, rn, dl, tk, pl⟩ := r
        have u0 := H97.out.cell 0 (.int .i64 er) rfl
        have z9 := H97.out.lt
        simp only at HDB
        go_upto_region 12 with fail
        go_cut [85] from 24 to 86 (fun v W => v = .bool false ∧ Below wc.heap.size wc W)
        case first => as_aux_lemma =>
          by_cases her : er = 0
          case pos =>
            have t2 : (er != 0) = false := by simpa using her
            clear her
            go_wp2_with fail
            go_meet
            exact ⟨rfl, Below.refl _ _⟩
          have t2 : (er != 0) = true := by simpa using her
          have h := HDB.out her
          simp only [noRp, noTk, MRp.mk.injEq, true_and] at h
          obtain ⟨rfl, rfl, rfl, rfl, rfl⟩ := h
          have u1 := H97.out.cell 1 (.int .i64 0) rfl
          have u2 := H97.out.cell 2 (.int .i64 0) rfl
          have u3 := H97.out.cell 3 (.int .i64 0) rfl
          have u4 := H97.out.cell 4 (.int .u32 0) rfl
          have u5 := H97.out.cell 5 (.int .u32 0) rfl
          have u6 := H97.out.cell 6 (.int .u64 0) rfl
          have u7 := H97.out.cell 7 (.int .u64 0) rfl
          have u8 := H97.out.cell 8 (.int .i64 0) rfl
          clear her HDB HDK
          go_wp2_with fail
          go_meet
          exact ⟨rfl, Below.refl _ _⟩
        case rest =>
          obtain ⟨rfl, hb⟩ := hcut
          have B8 := Lib.hid (B7.out.trans (hb.mono B7.out.size))
          have HS8 := Lib.hid (HS7.out.later hb)
          have H88 := Lib.hid (H87.out.later hb)
          have HK8 := Lib.hid (HK7.out.up (Loose.of hb))
          clear hb u0 z9 H97 HS7 H87 HK7 B7
          have hrow := grownBy_setRow HS8.out hs.toArray
          have htag := Tag.of_box HS8.out
          go_wp2_with (first | refine wpList_load_mid rfl 29 (.tmp 8) rfl b8 0 rfl hs _ H88.out.range2 Tryz.underlying29 rfl S8.out ?_ | refine wpList_store_row rfl 29 (.tmp 5) (.tmp 86) rfl q hs.toArray rfl rfl 29 _ HS8.out S8A.out (LM.out.trans L8.out.symm) O8.out ?_)
          exact ⟨⟨k + 1, F', by omega, by go_num, Lib.hid (B8.out.grown hrow.1 B8.out.size (fun j hj => by injection hj with hj; omega)), Lib.hid (by rw [HNS.out, ← HHS.out]; exact hrow.2), Lib.hid (by rw [HNS.out]; exact HK8.out.up (Loose.grown hrow.1 htag (by omega) (by decide) (by decide) (by decide)))⟩, by simp [intOf]; omega⟩
end Go.Proofs.YtinbjfkkpcpokaaGreatDoor
