/-
  Walk of the law ModelChecks; of groundlinglaw23.tickets, ints, large. Conditions: the pinned table lies where it was laid.
-/
import Derived.Test.YtinbjfkkpcpokaaGreatDoorRcC
import Derived.Test.YtinbjfkkpcpokaaGreatDoorLmC
import Derived.Test.YtinbjfkkpcpokaaGreatDoorLmD
namespace Go.Proofs.YtinbjfkkpcpokaaGreatDoor
open Go.RowKit

theorem Sl.atTk {w : World} {A : Option Addr} {n c k : Nat} {xs : List Tk} (h : Sl tkR w (.slice A n c) xs) (hk : k < xs.length) :
    ∃ b off, A = some ⟨b, off, .none⟩ ∧ b < w.heap.size ∧ w.cell? ⟨b, off + k * 4, .none⟩ = some (.int .u32 xs[k].seat) ∧ w.cell? ⟨b, off + k * 4 + 1, .none⟩ = some (.int .u32 xs[k].owner) ∧ w.cell? ⟨b, off + k * 4 + 2, .none⟩ = some (.int .u64 xs[k].serial) ∧ w.cell? ⟨b, off + k * 4 + 3, .none⟩ = some (.int .u64 xs[k].epoch) := by
  obtain ⟨b, off, cs, rfl, hb, ⟨rfl, hx⟩, h2⟩ := h.at_ hk
  exact ⟨b, off, rfl, hb, h2 0 _ rfl, h2 1 _ rfl, h2 2 _ rfl, h2 3 _ rfl⟩

set_option maxHeartbeats 4000000 in
theorem lTickets_any {w : World} {A B : Option Addr} {ca cb : Nat} {xs : List Tk} (ha : Sl tkR w (.slice A xs.length ca) xs) (hb : Sl tkR w (.slice B xs.length cb) xs) :
    Calls Tryz.prog 22 #[.slice A xs.length ca, .slice B xs.length cb] w fun e w' => e = .returned (.bool true) ∧ Below w.heap.size w w' := by
  have hca := ha.cap
  have HA := Lib.hid ha
  have HB := Lib.hid hb
  clear ha hb
  go_enter Tryz.func22, Tryz.ntmps22
  go_wp2_with fail
  go_loopw [5] (fun i wr => ∃ k : Nat, k ≤ xs.length ∧ i = .int .i64 (k : Int) ∧ Hid (Below w.heap.size w wr)) (fun i _ => xs.length - (intOf i).toNat)
  case atStart => exact ⟨0, by omega, rfl, Lib.hid (Below.refl _ _)⟩
  case round =>
    obtain ⟨k, hk, rfl, hW⟩ := hrel
    by_cases hlt : k < xs.length
    · obtain ⟨b, off, rfl, hbl, a0, a1, a2, a3⟩ := (HA.out.up hW.out).atTk hlt
      obtain ⟨b', off', rfl, hbl', c0, c1, c2, c3⟩ := (HB.out.up hW.out).atTk hlt
      generalize xs[k] = x at *
      have t0 : decide ((k : Int) < (xs.length : Int)) = true := by simp; omega
      have hk0 : (0 : Int) ≤ (k : Int) := by omega
      have hk1 : (k : Int) < (xs.length : Int) := by omega
      go_upto_region 4 with fail
      go_quiet (fail)
      go_wp2_with fail
      exact ⟨⟨k + 1, by omega, by go_num, Lib.hid (bdN hW.out _)⟩, by simp [intOf]; omega⟩
    · obtain rfl : k = xs.length := by omega
      have t0 : decide ((xs.length : Int) < (xs.length : Int)) = false := by simp
      go_wp2_with fail
      go_ret
      exact ⟨rfl, hW.out⟩

set_option maxHeartbeats 4000000 in
theorem lInts_any {w : World} {A B : Option Addr} {ca cb : Nat} {xs : List Int} (ha : Sl intR w (.slice A xs.length ca) xs) (hb : Sl intR w (.slice B xs.length cb) xs) :
    Calls Tryz.prog 23 #[.slice A xs.length ca, .slice B xs.length cb] w fun e w' => e = .returned (.bool true) ∧ Below w.heap.size w w' := by
  have hca := ha.cap
  have HA := Lib.hid ha
  have HB := Lib.hid hb
  clear ha hb
  go_enter Tryz.func23, Tryz.ntmps23
  go_wp2_with fail
  go_loopw [5] (fun i wr => ∃ k : Nat, k ≤ xs.length ∧ i = .int .i64 (k : Int) ∧ Hid (Below w.heap.size w wr)) (fun i _ => xs.length - (intOf i).toNat)
  case atStart => exact ⟨0, by omega, rfl, Lib.hid (Below.refl _ _)⟩
  case round =>
    obtain ⟨k, hk, rfl, hW⟩ := hrel
    by_cases hlt : k < xs.length
    · obtain ⟨b, off, rfl, hbl, a0, _⟩ := (HA.out.up hW.out).atI hlt
      obtain ⟨b', off', rfl, hbl', c0, _⟩ := (HB.out.up hW.out).atI hlt
      generalize xs[k] = x at *
      have t0 : decide ((k : Int) < (xs.length : Int)) = true := by simp; omega
      have hk0 : (0 : Int) ≤ (k : Int) := by omega
      have hk1 : (k : Int) < (xs.length : Int) := by omega
      go_upto_region 4 with fail
      go_quiet (fail)
      go_wp2_with fail
      exact ⟨⟨k + 1, by omega, by go_num, Lib.hid (bdN hW.out _)⟩, by simp [intOf]; omega⟩
    · obtain rfl : k = xs.length := by omega
      have t0 : decide ((xs.length : Int) < (xs.length : Int)) = false := by simp
      go_wp2_with fail
      go_ret
      exact ⟨rfl, hW.out⟩

/-- What large answers: a state that is not large has short lists. -/
def LargePost (s : Md) (w : World) (e : Ending) (w' : World) : Prop := ∃ b : Bool, e = .returned (.bool b) ∧ Below w.heap.size w w' ∧ (b = false → s.qs.length ≤ 1000 ∧ ∀ l, l ∈ s.qs → l.length ≤ 1000)

set_option maxHeartbeats 4000000 in
set_option maxRecDepth 20000 in
theorem large_any (F : MFrm) (s : Md) (w : World) (hs : IsMd w F s) : Calls Tryz.prog 13 #[mdV F s] w (LargePost s w) := by
  have CW := Lib.hid (fun W (hb : Below w.heap.size w W) => wide_any (hs.up hb).secs)
  have HS := Lib.hid hs
  have hcapS := hs.seats.capB
  have hcapQ := hs.qs.capB
  clear hs
  unfold WidePost at CW
  have MVk := Lib.hid (show mdV F s = .agg (mdCells F s).toArray from rfl)
  rw [MVk.out]
  obtain ⟨ms, hms⟩ : ∃ ms : List Value, ms = mdCells F s := ⟨_, rfl⟩
  rw [← hms]
  have HMS := Lib.hid hms
  clear hms MVk
  go_enter Tryz.func13, Tryz.ntmps13
  go_upto_region 1 with fail
  obtain ⟨q, hq⟩ : ∃ q, w.heap.size = q := ⟨_, rfl⟩
  rw [hq]
  refine at_world (fun X => Below w.heap.size w X ∧ BoxN X q 29 ms.toArray) ⟨ba _ _, hq ▸ BoxN.new w 29 ms.toArray⟩ fun w0 hw0 => ?_
  have B0 := Lib.hid hw0.1
  have K0 := Lib.hid hw0.2
  clear hw0
  go_wp2_with fail
  go_loopw [3] (fun iv wr => ∃ k : Nat, k ≤ s.qs.length ∧ k ≤ 30 ∧ iv = .int .i64 (k : Int) ∧ Hid (Below w0.heap.size w0 wr) ∧ Hid (∀ j, (hj : j < s.qs.length) → j < k → s.qs[j].length ≤ 100)) (fun iv _ => 30 - (intOf iv).toNat)
  case atStart => exact ⟨0, by omega, by omega, rfl, Lib.hid (Below.refl _ _), Lib.hid (fun _ _ h => by omega)⟩
  case round =>
    obtain ⟨k, hk, hk30, rfl, HR, HJ⟩ := hrel
    rename World => wr
    have BR := Lib.hid (B0.out.trans (HR.out.mono B0.out.size))
    have KR := Lib.hid (show BoxN wr q 29 (mdCells F s).toArray from HMS.out ▸ K0.out.later HR.out)
    have m6 := KR.out.cell 6 (.slice F.Q s.qs.length F.qc) rfl
    have m5 := KR.out.cell 5 (.slice F.A s.seats.length F.ac) rfl
    have zq := KR.out.lt
    by_cases hin : k < s.qs.length ∧ k < 30
    case pos =>
      obtain ⟨hin1, hin2⟩ := hin
      have t0 : decide ((k : Int) < (s.qs.length : Int)) = true := decide_eq_true (by omega)
      have t1 : decide ((k : Int) < 30) = true := decide_eq_true (by omega)
      have t1' : decide (k < 30) = true := decide_eq_true hin2
      have hk0 : (0 : Int) ≤ (k : Int) := by omega
      have hk1 : (k : Int) < (s.qs.length : Int) := by omega
      obtain ⟨bQ, oQ, A0, ac0, hQ, hbQ, e0, _⟩ := (HS.out.qs.up BR.out).atQ hin1
      rw [hQ] at m6
      clear hQ
      by_cases hl : 100 < s.qs[k].length
      · have t2 : decide ((100 : Int) < (s.qs[k].length : Int)) = true := decide_eq_true (by omega)
        have t2' : decide (100 < s.qs[k].length) = true := decide_eq_true hl
        clear hl HJ
        generalize s.qs[k].length = ql at *
        go_wp2_with fail
        go_ret
        exact ⟨true, rfl, by first | exact BR.out | (rw [← hq]; exact BR.out), fun h => by cases h⟩
      · have t2 : decide ((100 : Int) < (s.qs[k].length : Int)) = false := decide_eq_false (by omega)
        have t2' : decide (100 < s.qs[k].length) = false := decide_eq_false hl
        have HN := Lib.hid (show ∀ j, (hj : j < s.qs.length) → j < k + 1 → s.qs[j].length ≤ 100 from fun j hj hjk => by
          by_cases e : j = k
          · subst e; omega
          · exact HJ.out j hj (by omega))
        have hk31 : k + 1 ≤ s.qs.length ∧ k + 1 ≤ 30 := by omega
        clear hl HJ
        generalize s.qs[k].length = ql at *
        go_wp2_with fail
        exact ⟨⟨k + 1, by omega, by omega, by go_num, HR, HN⟩, by simp [intOf]; omega⟩
    have HJ2 := Lib.hid (show s.qs.length ≤ 20 → s.qs.length ≤ 1000 ∧ ∀ l, l ∈ s.qs → l.length ≤ 1000 from fun h => ⟨by omega, fun l hl => by
      obtain ⟨j, hj, rfl⟩ := List.getElem_of_mem hl
      have := HJ.out j hj (by omega)
      omega⟩)
    have m0 := KR.out.cell 0 (.int .i64 s.ve.shards) rfl
    have m1 := KR.out.cell 1 (.int .i64 s.ve.ttl) rfl
    have m2 := KR.out.cell 2 (.int .i64 s.ve.session) rfl
    have m3 := KR.out.cell 3 (.slice F.V s.ve.secs.length F.vc) rfl
    clear HJ
    by_cases hk1 : k < s.qs.length
    case pos =>
      obtain rfl : k = 30 := by omega
      have t0 : decide ((30 : Int) < (s.qs.length : Int)) = true := decide_eq_true (by omega)
      have t0' : decide (30 < s.qs.length) = true := decide_eq_true hk1
      clear hin hk1
      go_wp2_with fail
      refine (CW.out _ BR.out).mono ?_
      rintro e w2 ⟨b, rfl, hb⟩
      have B2 := Lib.hid (BR.out.trans (hb.mono BR.out.size))
      have K2 := Lib.hid (KR.out.later hb)
      clear hb m0 m1 m2 m3 m5 m6 zq
      have m6 := K2.out.cell 6 (.slice F.Q s.qs.length F.qc) rfl
      have m5 := K2.out.cell 5 (.slice F.A s.seats.length F.ac) rfl
      have zq := K2.out.lt
      cases b
      case true =>
        go_wp2_with fail
        go_ret
        exact ⟨true, rfl, by first | exact B2.out | (rw [← hq]; exact B2.out), fun h => by cases h⟩
      case false =>
        by_cases h3 : 300 < s.seats.length
        · have t3 : decide ((300 : Int) < (s.seats.length : Int)) = true := decide_eq_true (by omega)
          have t3' : decide (300 < s.seats.length) = true := decide_eq_true h3
          clear h3
          go_wp2_with fail
          go_ret
          exact ⟨true, rfl, by first | exact B2.out | (rw [← hq]; exact B2.out), fun h => by cases h⟩
        have t3 : decide ((300 : Int) < (s.seats.length : Int)) = false := decide_eq_false (by omega)
        have t3' : decide (300 < s.seats.length) = false := decide_eq_false h3
        by_cases h4 : 20 < s.qs.length
        · have t4 : decide ((20 : Int) < (s.qs.length : Int)) = true := decide_eq_true (by omega)
          have t4' : decide (20 < s.qs.length) = true := decide_eq_true h4
          clear h3 h4
          go_wp2_with fail
          go_ret
          exact ⟨true, rfl, by first | exact B2.out | (rw [← hq]; exact B2.out), fun h => by cases h⟩
        have t4 : decide ((20 : Int) < (s.qs.length : Int)) = false := decide_eq_false (by omega)
        have t4' : decide (20 < s.qs.length) = false := decide_eq_false h4
        have HX := Lib.hid (HJ2.out (by omega))
        clear h3 h4
        go_wp2_with fail
        go_ret
        exact ⟨false, rfl, by first | exact B2.out | (rw [← hq]; exact B2.out), fun _ => HX.out⟩
    case neg =>
      obtain rfl : k = s.qs.length := by omega
      have t0 : decide ((s.qs.length : Int) < (s.qs.length : Int)) = false := by simp
      clear hin hk1
      go_wp2_with fail
      refine (CW.out _ BR.out).mono ?_
      rintro e w2 ⟨b, rfl, hb⟩
      have B2 := Lib.hid (BR.out.trans (hb.mono BR.out.size))
      have K2 := Lib.hid (KR.out.later hb)
      clear hb m0 m1 m2 m3 m5 m6 zq
      have m6 := K2.out.cell 6 (.slice F.Q s.qs.length F.qc) rfl
      have m5 := K2.out.cell 5 (.slice F.A s.seats.length F.ac) rfl
      have zq := K2.out.lt
      cases b
      case true =>
        go_wp2_with fail
        go_ret
        exact ⟨true, rfl, by first | exact B2.out | (rw [← hq]; exact B2.out), fun h => by cases h⟩
      case false =>
        by_cases h3 : 300 < s.seats.length
        · have t3 : decide ((300 : Int) < (s.seats.length : Int)) = true := decide_eq_true (by omega)
          have t3' : decide (300 < s.seats.length) = true := decide_eq_true h3
          clear h3
          go_wp2_with fail
          go_ret
          exact ⟨true, rfl, by first | exact B2.out | (rw [← hq]; exact B2.out), fun h => by cases h⟩
        have t3 : decide ((300 : Int) < (s.seats.length : Int)) = false := decide_eq_false (by omega)
        have t3' : decide (300 < s.seats.length) = false := decide_eq_false h3
        by_cases h4 : 20 < s.qs.length
        · have t4 : decide ((20 : Int) < (s.qs.length : Int)) = true := decide_eq_true (by omega)
          have t4' : decide (20 < s.qs.length) = true := decide_eq_true h4
          clear h3 h4
          go_wp2_with fail
          go_ret
          exact ⟨true, rfl, by first | exact B2.out | (rw [← hq]; exact B2.out), fun h => by cases h⟩
        have t4 : decide ((20 : Int) < (s.qs.length : Int)) = false := decide_eq_false (by omega)
        have t4' : decide (20 < s.qs.length) = false := decide_eq_false h4
        have HX := Lib.hid (HJ2.out (by omega))
        clear h3 h4
        go_wp2_with fail
        go_ret
        exact ⟨false, rfl, by first | exact B2.out | (rw [← hq]; exact B2.out), fun _ => HX.out⟩

set_option maxHeartbeats 8000000 in
set_option maxRecDepth 20000 in
theorem lawChecks_any {w : World} {F : MFrm} {s : Md} {owner : Int} (h : IsMd w F s) (hu : UsesAt w) :
    Calls Tryz.prog 4 #[mdV F s, .int .u32 owner] w fun e w' => e = .returned (.bool true) ∧ Below w.heap.size w w' := by
  have HS := Lib.hid h
  have HU := Lib.hid hu
  have CL := Lib.hid (fun W (hb : Below w.heap.size w W) => large_any F s W (h.up hb))
  have CC := Lib.hid (fun hn W (hb : Below w.heap.size w W) => And.intro (mCount_any F s W (h.up hb) hn) (And.intro (rCount_any F s W (h.up hb) hn) (And.intro (mcheck_any F s W (h.up hb) hn) (And.intro (rcheck23_any F s W (h.up hb) hn) (And.intro (mTickets_any F s W (h.up hb) hn) (And.intro (rTickets_any F s W (h.up hb) hn) (And.intro (mOf_any F s owner W (h.up hb) hn) (rOf_any F s owner W (h.up hb) hn))))))))
  clear h hu
  unfold LargePost at CL
  have S7 := Lib.hid (show (Tryz.prog.info? 29).map (·.size) = some (mdCells F s).length by kernel_rfl)
  have MVk := Lib.hid (show mdV F s = .agg (mdCells F s).toArray from rfl)
  rw [MVk.out] at CL ⊢
  simp only [MVk.out] at CC
  obtain ⟨ms, hms⟩ : ∃ ms : List Value, ms = mdCells F s := ⟨_, rfl⟩
  rw [← hms] at CL S7 ⊢
  simp only [← hms] at CC
  have HMS := Lib.hid hms
  clear hms MVk
  generalize countM s = M at CC
  generalize ticksM s = T at CC
  generalize ofM s owner = O at CC
  generalize checkM s = E at CC
  obtain ⟨x0, x1, x2, x3, x4⟩ := M
  obtain ⟨tl, te⟩ := T
  obtain ⟨ol, oe⟩ := O
  simp only at CC
  go_enter Tryz.func4, Tryz.ntmps4
  go_upto_region 1 with fail
  obtain ⟨q, hq⟩ : ∃ q, w.heap.size = q := ⟨_, rfl⟩
  rw [hq]
  refine at_world (fun X => Below w.heap.size w X ∧ BoxN X q 29 ms.toArray) ⟨ba _ _, hq ▸ BoxN.new w 29 ms.toArray⟩ fun w0 hw0 => ?_
  have B0 := Lib.hid hw0.1
  have K0 := Lib.hid hw0.2
  clear hw0
  go_wp2_with (refine wpList_load_mid rfl 29 (.tmp 2) rfl q 0 rfl ms _ K0.out.range2 Tryz.underlying29 rfl S7.out ?_)
  refine (CL.out _ B0.out).mono ?_
  rintro e w1 ⟨b, rfl, hb, hbd⟩
  have B1 := Lib.hid (B0.out.trans (hb.mono B0.out.size))
  have K1 := Lib.hid (K0.out.later hb)
  clear hb CL B0 K0
  cases b
  case true =>
    clear hbd CC
    go_wp2_with fail
    refine (shown_any _ (HU.out.up B1.out HU.out.1)).mono ?_
    rintro e w9 ⟨rfl, hb9⟩
    have BF := Lib.hid (B1.out.trans (hb9.mono B1.out.size))
    go_wp2_with fail
    go_ret
    exact ⟨rfl, by first | exact BF.out | (rw [← hq]; exact BF.out)⟩
  have CC := Lib.hid (CC.out (hbd rfl))
  clear hbd
  go_wp2_with (refine wpList_load_mid rfl 29 (.tmp 2) rfl q 0 rfl ms _ K1.out.range2 Tryz.underlying29 rfl S7.out ?_)
  refine ((CC.out _ B1.out).1).mono ?_
  rintro e w2 ⟨rfl, hb⟩
  have B2 := Lib.hid (B1.out.trans (hb.mono B1.out.size))
  have K2 := Lib.hid (K1.out.later hb)
  clear hb B1 K1
  go_wp2_with (refine wpList_load_mid rfl 29 (.tmp 2) rfl q 0 rfl ms _ K2.out.range2 Tryz.underlying29 rfl S7.out ?_)
  refine ((CC.out _ B2.out).2.1).mono ?_
  rintro e w3 ⟨rfl, hb⟩
  have B3 := Lib.hid (B2.out.trans (hb.mono B2.out.size))
  have K3 := Lib.hid (K2.out.later hb)
  clear hb B2 K2
  go_upto_region 5 with fail
  have hd := (show BoxN w3 q 29 (mdCells F s).toArray from HMS.out ▸ K3.out)
  have m0 := gro_cell (hd.cell 0 _ rfl)
  have m1 := gro_cell (hd.cell 1 _ rfl)
  have m2 := gro_cell (hd.cell 2 _ rfl)
  have m3 := gro_cell (hd.cell 3 _ rfl)
  have m4 := gro_cell (hd.cell 4 _ rfl)
  have m5 := gro_cell (hd.cell 5 _ rfl)
  have m6 := gro_cell (hd.cell 6 _ rfl)
  clear hd
  have CK := Lib.hid (fun W (hb : Below w3.heap.size w3 W) => (CC.out W (B3.out.trans (hb.mono B3.out.size))).2.2.1)
  have CR := Lib.hid (fun W (hb : Below w3.heap.size w3 W) => (CC.out W (B3.out.trans (hb.mono B3.out.size))).2.2.2.1)
  rw [HMS.out] at CK CR
  unfold mdCells at CK CR
  refine wp_region_gro (by kernel_rfl) (by kernel_rfl) ?_
  repeat (go_big_quiet_step (first | (go_at_call 16; exact Calls.gro_of (CK.out _ (gro_below _ _))) | (go_at_call 17; exact Calls.gro_of (CR.out _ (gro_below _ _))) | fail))
  refine wpQuiet_nil ?_
  rintro _ ⟨p, rfl⟩
  have hg := gro_below w3 p
  have B4 := Lib.hid (B3.out.trans (hg.mono B3.out.size))
  have K4 := Lib.hid (K3.out.later hg)
  clear hg m0 m1 m2 m3 m4 m5 m6 CK CR B3 K3
  generalize gro w3 p = w4 at B4 K4 ⊢
  go_wp2_with (refine wpList_load_mid rfl 29 (.tmp 2) rfl q 0 rfl ms _ K4.out.range2 Tryz.underlying29 rfl S7.out ?_)
  refine ((CC.out _ B4.out).2.2.2.2.1).mono ?_
  rintro e w5 ⟨va, rfl, ha, hb⟩
  have B5 := Lib.hid (B4.out.trans (hb.mono B4.out.size))
  have K5 := Lib.hid (K4.out.later hb)
  have HA := Lib.hid ha
  clear ha
  clear hb B4 K4
  go_wp2_with (refine wpList_load_mid rfl 29 (.tmp 2) rfl q 0 rfl ms _ K5.out.range2 Tryz.underlying29 rfl S7.out ?_)
  refine ((CC.out _ B5.out).2.2.2.2.2.1).mono ?_
  rintro e w6 ⟨vb, rfl, hbb, hb⟩
  have B6 := Lib.hid (B5.out.trans (hb.mono B5.out.size))
  have K6 := Lib.hid (K5.out.later hb)
  have HA := Lib.hid (HA.out.up hb)
  have HB := Lib.hid hbb
  clear hbb
  clear hb B5 K5
  go_wp2_with (refine wpList_load_mid rfl 29 (.tmp 2) rfl q 0 rfl ms _ K6.out.range2 Tryz.underlying29 rfl S7.out ?_)
  refine ((CC.out _ B6.out).2.2.2.2.2.2.1).mono ?_
  rintro e w7 ⟨vc, rfl, hc, hb⟩
  have B7 := Lib.hid (B6.out.trans (hb.mono B6.out.size))
  have K7 := Lib.hid (K6.out.later hb)
  have HA := Lib.hid (HA.out.up hb)
  have HB := Lib.hid (HB.out.up hb)
  have HC := Lib.hid hc
  clear hc
  clear hb B6 K6
  go_wp2_with (refine wpList_load_mid rfl 29 (.tmp 2) rfl q 0 rfl ms _ K7.out.range2 Tryz.underlying29 rfl S7.out ?_)
  refine ((CC.out _ B7.out).2.2.2.2.2.2.2).mono ?_
  rintro e w8 ⟨vd, rfl, hd, hb⟩
  have B8 := Lib.hid (B7.out.trans (hb.mono B7.out.size))
  have K8 := Lib.hid (K7.out.later hb)
  have HA := Lib.hid (HA.out.up hb)
  have HB := Lib.hid (HB.out.up hb)
  have HC := Lib.hid (HC.out.up hb)
  have HD := Lib.hid hd
  clear hd
  clear hb B7 K7
  clear CC
  obtain ⟨a1, n1, rfl, _, _, ha⟩ := HA.out.form
  obtain ⟨a2, n2, rfl, _, _, hbb⟩ := HB.out.form
  obtain ⟨a3, n3, rfl, _, _, hc⟩ := HC.out.form
  obtain ⟨a4, n4, rfl, _, _, hd⟩ := HD.out.form
  have SA := Lib.hid ha.sl
  have SB := Lib.hid hbb.sl
  have SC := Lib.hid hc.sl
  have SD := Lib.hid hd.sl
  clear ha hbb hc hd HA HB HC HD
  go_wp2_with fail
  refine (lTickets_any SA.out SB.out).mono ?_
  rintro e u1 ⟨rfl, hb⟩
  have BU := Lib.hid (B8.out.trans (hb.mono B8.out.size))
  have SC := Lib.hid (SC.out.up hb)
  have SD := Lib.hid (SD.out.up hb)
  clear hb B8 K8 SA SB
  go_wp2_with fail
  refine (lInts_any SC.out SD.out).mono ?_
  rintro e u2 ⟨rfl, hb⟩
  have BV := Lib.hid (BU.out.trans (hb.mono BU.out.size))
  clear hb BU SC SD
  go_wp2_with fail
  refine (shown_any _ (HU.out.up BV.out HU.out.1)).mono ?_
  rintro e w9 ⟨rfl, hb9⟩
  have BF := Lib.hid (BV.out.trans (hb9.mono BV.out.size))
  go_wp2_with fail
  go_ret
  exact ⟨rfl, by first | exact BF.out | (rw [← hq]; exact BF.out)⟩
end Go.Proofs.YtinbjfkkpcpokaaGreatDoor
