/-
  Walks of groundlinglaw23.wide, section, freed. Conditions: as each theorem says.
-/
import Derived.Test.YtinbjfkkpcpokaaGreatDoorLmC
import Derived.Test.YtinbjfkkpcpokaaGreatDoorPlMw
import Derived.BigQuiet
namespace Go.Proofs.YtinbjfkkpcpokaaGreatDoor
open Go.RowKit

def WidePost (w : World) (e : Ending) (w' : World) : Prop := ∃ b : Bool, e = .returned (.bool b) ∧ Below w.heap.size w w'

set_option maxRecDepth 20000 in
set_option maxHeartbeats 8000000 in
theorem wide_any {w : World} {V : Option Addr} {vc : Nat} {x : Ve} (hv : Sl secR w (.slice V x.secs.length vc) x.secs) :
    Calls Tryz.prog 29 #[.agg #[.int .i64 x.shards, .int .i64 x.ttl, .int .i64 x.session, .slice V x.secs.length vc]] w (WidePost w) := by
  have hcap := hv.cap
  have HV := Lib.hid hv
  clear hv
  go_enter Tryz.func29, Tryz.ntmps29
  go_upto_region 1 with fail
  refine at_world (fun W => Below w.heap.size w W ∧ Cells W w.heap.size [.int .i64 x.shards, .int .i64 x.ttl, .int .i64 x.session, .slice V x.secs.length vc]) ⟨ba _ _, Cells.new _ _ _⟩ fun w0 ⟨hb0, k0⟩ => ?_
  have HB0 := Lib.hid hb0
  have HK0 := Lib.hid k0
  clear hb0 k0
  go_wp2_with fail
  go_loopw [3, 4] (fun n i wr => ∃ k : Nat, k ≤ x.secs.length ∧ k ≤ 20 ∧ i = .int .i64 (k : Int) ∧ ∃ m : Int, n = .int .i64 m ∧ 0 ≤ m ∧ m ≤ 20000 * k ∧ Hid (Below w0.heap.size w0 wr)) (fun _ i _ => x.secs.length - (intOf i).toNat)
  case atStart => exact ⟨0, by omega, by omega, rfl, 0, rfl, by omega, by omega, Lib.hid (Below.refl _ _)⟩
  case round =>
    obtain ⟨k, hk, hk20, rfl, m, rfl, hm0, hm1, HW⟩ := hrel
    rename World => wq
    have k1 := HK0.out.later HW.out
    have c3 := k1.c 3 _ rfl
    have y1 := k1.lt
    have HBW := Lib.hid (HB0.out.trans (HW.out.mono HB0.out.size))
    by_cases hlt : k < x.secs.length ∧ k < 20
    · have t0 : decide ((k : Int) < (x.secs.length : Int)) = true := decide_eq_true (by omega)
      have t0' : decide ((k : Int) < 20) = true := decide_eq_true (by omega)
      obtain ⟨b, off, A', c', hA, hbl, d0, d1, d2, hin, _, hns⟩ := (HV.out.up HBW.out).atS hlt.1
      subst hA
      have hk0 : (0 : Int) ≤ (k : Int) := by omega
      have hk1 : (k : Int) < (x.secs.length : Int) := by omega
      have HIN := Lib.hid hin
      have hcap2 := hin.cap
      clear hin
      generalize x.secs[k].rows = rs at d1 HIN hcap2
      generalize x.secs[k].name = nm at d0 hns
      generalize x.secs[k].queue = q at d2
      by_cases h2 : 100 < nm.size
      · have t2 : decide ((100 : Int) < (nm.size : Int)) = true := decide_eq_true (by omega)
        go_wp2_with fail
        go_ret
        exact ⟨true, rfl, HBW.out⟩
      have t2 : decide ((100 : Int) < (nm.size : Int)) = false := decide_eq_false (by omega)
      by_cases h1 : 20 < rs.length
      · have t1 : decide ((20 : Int) < (rs.length : Int)) = true := decide_eq_true (by omega)
        go_wp2_with fail
        go_ret
        exact ⟨true, rfl, HBW.out⟩
      have t1 : decide ((20 : Int) < (rs.length : Int)) = false := decide_eq_false (by omega)
      have HK1 := Lib.hid k1
      clear k1
      go_upto_region 7 with fail
      go_wp2_with fail
      go_loopw [3, 5] (fun n j wx => ∃ l : Nat, l ≤ rs.length ∧ j = .int .i64 (l : Int) ∧ ∃ m' : Int, n = .int .i64 m' ∧ 0 ≤ m' ∧ m' ≤ 20000 * k + 1000 * l ∧ Hid (Below wq.heap.size wq wx)) (fun _ j _ => rs.length - (intOf j).toNat)
      case atStart => exact ⟨0, by omega, rfl, m, rfl, by omega, by omega, Lib.hid (Below.refl _ _)⟩
      case round =>
        obtain ⟨l, hll, rfl, m', rfl, hm2, hm3, HX⟩ := hrel
        have k2 := HK1.out.later HX.out
        have c3 := k2.c 3 _ rfl
        have y1 := k2.lt
        have e1 := cell_later HX.out d1
        have hbl2 : b < wr.heap.size := Nat.lt_of_lt_of_le hbl HX.out.size
        clear k2
        by_cases hl2 : l < rs.length
        · obtain ⟨b3, o3, hA3, _, g0, hbd⟩ := ((HIN.out.up HX.out)).atI hl2
          subst hA3
          have hl0 : (0 : Int) ≤ (l : Int) := by omega
          have hl1 : (l : Int) < (rs.length : Int) := by omega
          have t3 : decide ((l : Int) < (rs.length : Int)) = true := decide_eq_true (by omega)
          generalize rs[l] = r at g0 hbd
          have hW : IntKind.i64.wrap (m' + min (max r 0) 1000) = m' + min (max r 0) 1000 := IntWalk.i64_in _ (by omega)
          go_wp2_with fail
          exact ⟨⟨l + 1, by omega, by go_num, m' + min (max r 0) 1000, by first | rfl | (rw [hW]), by omega, by omega, Lib.hid (by first | exact HX.out | exact bdN HX.out _)⟩, by simp [intOf]; omega⟩
        · have t3 : decide ((l : Int) < (rs.length : Int)) = false := decide_eq_false (by omega)
          go_wp2_with fail
          exact ⟨⟨k + 1, by omega, by omega, by go_num, m', rfl, by omega, by omega, Lib.hid (HW.out.trans (HX.out.mono HW.out.size))⟩, by simp [intOf]; omega⟩
    · by_cases hl1 : k < x.secs.length
      · have t0 : decide ((k : Int) < (x.secs.length : Int)) = true := decide_eq_true (by omega)
        have t0' : decide ((k : Int) < 20) = false := decide_eq_false (by omega)
        by_cases h10 : 10 < x.secs.length
        · have t1 : decide ((10 : Int) < (x.secs.length : Int)) = true := decide_eq_true (by omega)
          go_wp2_with fail
          go_ret
          exact ⟨_, rfl, HBW.out⟩
        · omega
      · have t0 : decide ((k : Int) < (x.secs.length : Int)) = false := decide_eq_false (by omega)
        by_cases h10 : 10 < x.secs.length
        · have t1 : decide ((10 : Int) < (x.secs.length : Int)) = true := decide_eq_true (by omega)
          go_wp2_with fail
          go_ret
          exact ⟨_, rfl, HBW.out⟩
        · have t1 : decide ((10 : Int) < (x.secs.length : Int)) = false := decide_eq_false (by omega)
          obtain ⟨t, ht⟩ : ∃ t : Bool, decide ((200 : Int) < m) = t := ⟨_, rfl⟩
          go_wp2_with fail
          go_ret
          exact ⟨_, rfl, HBW.out⟩

set_option maxRecDepth 20000 in
set_option maxHeartbeats 4000000 in
theorem section_any {w : World} {V : Option Addr} {vc : Nat} {x : Ve} (hv : Sl secR w (.slice V x.secs.length vc) x.secs) (seat : Int) (h0 : 0 ≤ seat ∧ seat ≤ 1000000) (hn : x.secs.length ≤ 8) (hr : ∀ s, s ∈ x.secs → s.rows.length ≤ 16 ∧ ∀ n, n ∈ s.rows → 1 ≤ n ∧ n ≤ 64) :
    Calls Tryz.prog 36 #[.agg #[.int .i64 x.shards, .int .i64 x.ttl, .int .i64 x.session, .slice V x.secs.length vc], .int .i64 seat] w fun e w' => e = .returned (.int .i64 (secFrom x.secs seat 0)) ∧ Below w.heap.size w w' := by
  have hcap := hv.cap
  have HV := Lib.hid hv
  have HR := Lib.hid hr
  clear hv hr
  obtain ⟨R, hR⟩ : ∃ R, secFrom x.secs seat 0 = R := ⟨_, rfl⟩
  have HRR := Lib.hid hR
  rw [hR]
  clear hR
  go_enter Tryz.func36, Tryz.ntmps36
  go_upto_region 1 with fail
  refine at_world (fun W => Below w.heap.size w W ∧ Cells W w.heap.size [.int .i64 x.shards, .int .i64 x.ttl, .int .i64 x.session, .slice V x.secs.length vc]) ⟨ba _ _, Cells.new _ _ _⟩ fun w0 ⟨hb0, k0⟩ => ?_
  have HB0 := Lib.hid hb0
  have HK0 := Lib.hid k0
  clear hb0 k0
  go_wp2_with fail
  go_loopw [1, 5] (fun n i wr => ∃ k : Nat, k ≤ x.secs.length ∧ i = .int .i64 (k : Int) ∧ ∃ m : Int, n = .int .i64 m ∧ 0 ≤ m ∧ m ≤ seat ∧ Hid (secFrom (x.secs.drop k) m k = R) ∧ Hid (Below w0.heap.size w0 wr)) (fun _ i _ => x.secs.length - (intOf i).toNat)
  case atStart => exact ⟨0, by omega, rfl, seat, rfl, by omega, by omega, by simpa using HRR, Lib.hid (Below.refl _ _)⟩
  case round =>
    obtain ⟨k, hk, rfl, m, rfl, hm0, hm1, HM, HW⟩ := hrel
    rename World => wq
    have k1 := HK0.out.later HW.out
    have c3 := k1.c 3 _ rfl
    have y1 := k1.lt
    have HBW := Lib.hid (HB0.out.trans (HW.out.mono HB0.out.size))
    by_cases hlt : k < x.secs.length
    · have t0 : decide ((k : Int) < (x.secs.length : Int)) = true := decide_eq_true (by omega)
      obtain ⟨b, off, A', c', hA, hbl, d0, d1, d2, hin, _, hns⟩ := (HV.out.up HBW.out).atS hlt
      subst hA
      have hk0 : (0 : Int) ≤ (k : Int) := by omega
      have hk1 : (k : Int) < (x.secs.length : Int) := by omega
      have HIN := Lib.hid hin
      have hcap2 := hin.cap
      have hrw := HR.out _ (List.getElem_mem hlt)
      have HM2 := Lib.hid (show (if m - sum x.secs[k].rows < 0 then (k : Int) else secFrom (x.secs.drop (k + 1)) (m - sum x.secs[k].rows) (k + 1)) = R by
        have h := HM.out
        rw [List.drop_eq_getElem_cons hlt] at h
        exact h)
      clear hin
      generalize x.secs[k].rows = rs at d1 HIN hcap2 hrw HM2
      have HRS := Lib.hid hrw.2
      have hrl := hrw.1
      have HK1 := Lib.hid k1
      clear k1 hrw HM
      go_wp2_with fail
      go_loopw [1, 6] (fun n j wx => ∃ l : Nat, l ≤ rs.length ∧ j = .int .i64 (l : Int) ∧ n = .int .i64 (m - sum (rs.take l)) ∧ Hid (0 ≤ sum (rs.take l) ∧ sum (rs.take l) ≤ 64 * l) ∧ Hid (Below wq.heap.size wq wx)) (fun _ j _ => rs.length - (intOf j).toNat)
      case atStart => exact ⟨0, by omega, rfl, by simp [sum], Lib.hid (by simp [sum]), Lib.hid (Below.refl _ _)⟩
      case round =>
        obtain ⟨l, hll, rfl, rfl, HSM, HX⟩ := hrel
        have k2 := HK1.out.later HX.out
        have c3 := k2.c 3 _ rfl
        have y1 := k2.lt
        have e1 := cell_later HX.out d1
        have hbl2 : b < wr.heap.size := Nat.lt_of_lt_of_le hbl HX.out.size
        have hsm := HSM.out
        clear k2
        by_cases hl2 : l < rs.length
        · obtain ⟨b3, o3, hA3, _, g0, hbd⟩ := ((HIN.out.up HX.out)).atI hl2
          subst hA3
          have hl0 : (0 : Int) ≤ (l : Int) := by omega
          have hl1 : (l : Int) < (rs.length : Int) := by omega
          have t3 : decide ((l : Int) < (rs.length : Int)) = true := decide_eq_true (by omega)
          have hsn := Lib.hid (show sum (rs.take (l + 1)) = sum (rs.take l) + rs[l] by rw [List.take_succ_eq_append_getElem hl2, sum_snoc])
          have hrb := HRS.out _ (List.getElem_mem hl2)
          generalize sum (rs.take l) = z at *
          generalize rs[l] = r at g0 hbd hsn hrb
          have hW : IntKind.i64.wrap (m - z - r) = m - z - r := IntWalk.i64_in _ (by omega)
          go_wp2_with fail
          have hsn' := hsn.out
          exact ⟨⟨l + 1, by omega, by go_num, by rw [hsn', show m - (z + r) = m - z - r by omega], Lib.hid (by omega), Lib.hid (by first | exact HX.out | exact bdN HX.out _)⟩, by simp [intOf]; omega⟩
        · obtain rfl : l = rs.length := by omega
          have t3 : decide ((rs.length : Int) < (rs.length : Int)) = false := decide_eq_false (by omega)
          rw [List.take_length] at *
          generalize sum rs = z at *
          by_cases hneg : m - z < 0
          · have t4 : decide (m - z < 0) = true := decide_eq_true hneg
            have hm := Lib.hid (show R = (k : Int) by rw [← HM2.out, if_pos hneg])
            go_wp2_with fail
            go_ret
            exact ⟨ret_int hm.out.symm, HB0.out.trans ((HW.out.trans (HX.out.mono HW.out.size)).mono HB0.out.size)⟩
          · have t4 : decide (m - z < 0) = false := decide_eq_false hneg
            have hm := Lib.hid (show secFrom (x.secs.drop (k + 1)) (m - z) (k + 1) = R by rw [← HM2.out, if_neg hneg])
            go_wp2_with fail
            exact ⟨⟨k + 1, by omega, by go_num, m - z, rfl, by omega, by omega, hm, Lib.hid (HW.out.trans (HX.out.mono HW.out.size))⟩, by simp [intOf]; omega⟩
    · obtain rfl : k = x.secs.length := by omega
      have t0 : decide ((x.secs.length : Int) < (x.secs.length : Int)) = false := decide_eq_false (by omega)
      have hm := Lib.hid (show R = -1 by rw [← HM.out, List.drop_length]; rfl)
      go_wp2_with fail
      go_ret
      exact ⟨ret_int hm.out.symm, HBW.out⟩

def freedB (op : MOp) : Bool := decide (op.kind = 4) || decide (op.kind = 7) || decide (op.kind = 8)
theorem freedB_iff {op : MOp} : freedB op = true ↔ freedK op := by simp [freedB, freedK, or_assoc]
set_option maxHeartbeats 2000000 in
theorem lawFreed_any (op : MOp) (w : World) : Calls Tryz.prog 35 #[.agg (opCells op).toArray] w fun e w' => e = .returned (.bool (freedB op)) ∧ Below w.heap.size w w' := by
  have HT := Lib.hid (show freedB op = (decide (op.kind = 4) || decide (op.kind = 7) || decide (op.kind = 8)) from rfl)
  generalize freedB op = T at HT ⊢
  unfold opCells
  generalize op.kind = k at HT ⊢
  go_enter Tryz.func35, Tryz.ntmps35
  by_cases h4 : k = 4
  · have t4 : (k == 4) = true := by simpa using h4
    have hm := Lib.hid (show T = true by rw [HT.out]; simp [h4])
    clear h4
    go_wp2_with fail
    go_ret
    exact ⟨ret_bool hm.out.symm, ba _ _⟩
  have t4 : (k == 4) = false := by simpa using h4
  by_cases h7 : k = 7
  · have t7 : (k == 7) = true := by simpa using h7
    have hm := Lib.hid (show T = true by rw [HT.out]; simp [h7])
    clear h7 h4
    go_wp2_with fail
    go_ret
    exact ⟨ret_bool hm.out.symm, ba _ _⟩
  have t7 : (k == 7) = false := by simpa using h7
  by_cases h8 : k = 8
  · have t8 : (k == 8) = true := by simpa using h8
    have hm := Lib.hid (show T = true by rw [HT.out]; simp [h8])
    clear h8 h7 h4
    go_wp2_with fail
    go_ret
    exact ⟨ret_bool hm.out.symm, ba _ _⟩
  · have t8 : (k == 8) = false := by simpa using h8
    have hm := Lib.hid (show T = false by rw [HT.out]; simp [h4, h7, h8])
    clear h8 h7 h4
    go_wp2_with fail
    go_ret
    exact ⟨ret_bool hm.out.symm, ba _ _⟩
end Go.Proofs.YtinbjfkkpcpokaaGreatDoor
