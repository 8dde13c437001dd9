/-
  Walks of venue.outside, of the closures of venue.check, and of venue.check. Conditions: as each theorem says.
-/
import Derived.Test.YtcomfhigbjkoeaaGreatDoorVnB
import Derived.Test.YtcomfhigbjkoeaaGreatDoorVnC
namespace Go.Proofs.YtcomfhigbjkoeaaGreatDoor
open Go.RowKit

theorem outside_int (n lo hi : Int) (w : World) : Calls Tryz.prog 55 #[.int .i64 n, .int .i64 lo, .int .i64 hi] w fun e w' => e = .returned (.bool (outB n lo hi)) ∧ w' = w := by
  by_cases h : n < lo
  · have hT := Lib.hid (show outB n lo hi = true by simp [outB, h])
    go_enter Tryz.func55, Tryz.ntmps55
    go_wp2
    go_ret
    exact ⟨ret_bool hT.out.symm, rfl⟩
  · have hT := Lib.hid (show outB n lo hi = decide (hi < n) by simp [outB, h])
    go_enter Tryz.func55, Tryz.ntmps55
    go_wp2
    go_ret
    exact ⟨ret_bool hT.out.symm, rfl⟩

theorem outside_int64 (n lo hi : Int) (w : World) : Calls Tryz.prog 56 #[.int .i64 n, .int .i64 lo, .int .i64 hi] w fun e w' => e = .returned (.bool (outB n lo hi)) ∧ w' = w := by
  by_cases h : n < lo
  · have hT := Lib.hid (show outB n lo hi = true by simp [outB, h])
    go_enter Tryz.func56, Tryz.ntmps56
    go_wp2
    go_ret
    exact ⟨ret_bool hT.out.symm, rfl⟩
  · have hT := Lib.hid (show outB n lo hi = decide (hi < n) by simp [outB, h])
    go_enter Tryz.func56, Tryz.ntmps56
    go_wp2
    go_ret
    exact ⟨ret_bool hT.out.symm, rfl⟩

theorem check2_any (n : Int) (w : World) : Calls Tryz.prog 79 #[.int .i64 n] w fun e w' => e = .returned (.bool (outB n 1 64)) ∧ Below w.heap.size w w' := by
  have C := Lib.hid (outside_int n 1 64)
  generalize outB n 1 64 = b at C
  go_enter Tryz.func79, Tryz.ntmps79
  go_wp2_with (go_at_call 55; refine (C.out _).mono ?_; rintro e w' ⟨rfl, rfl⟩)
  go_ret
  exact ⟨rfl, Below.refl _ _⟩

set_option maxHeartbeats 400000 in
theorem check1_any (x : Sec) (A : Option Addr) (c B : Nat) (name : ByteArray) (w : World) (hc : w.cell? ⟨B, 0, none⟩ = some (.string name)) :
    Calls Tryz.prog 77 #[.agg #[.string x.name, .slice A x.rows.length c, .int .i64 x.queue], .pointer (some ⟨B, 0, none⟩)] w fun e w' => e = .returned (.bool (x.name.toList == name.toList)) ∧ Below w.heap.size w w' := by
  have hB : B < w.heap.size := World.block_lt_of_cell? _ _ hc
  go_enter Tryz.func77, Tryz.ntmps77
  go_wp2
  go_ret
  exact ⟨rfl, ba _ _⟩

set_option maxHeartbeats 1000000 in
theorem check_any (x : Sec) (A : Option Addr) (c : Nat) (v : Value) (before : List Sec) (w : World) (hr : Sl intR w (.slice A x.rows.length c) x.rows) (hb : Sl secR w v before) (hn : x.name.size ≤ 9223372036854775807) (hrl : x.rows.length ≤ 9223372036854775807) :
    Calls Tryz.prog 57 #[.agg #[.string x.name, .slice A x.rows.length c, .int .i64 x.queue], v] w fun e w' => e = .returned (.int .i64 (secE x before)) ∧ Below w.heap.size w w' := by
  have eg1 := enters_fn Tryz.func77 (by kernel_rfl) rfl
  have eg2 := enters_fn Tryz.func79 (by kernel_rfl) rfl
  obtain ⟨Av, cv, rfl, _, _, hb⟩ := hb.open
  have C1 := Lib.hid (fun W => name_any x.name W hn)
  have C2 := Lib.hid (fun W (h : Below w.heap.size w W) (hc : W.cell? ⟨w.heap.size, 0, none⟩ = some (.string x.name)) =>
    containsFuncS_any (fun y => y.name.toList == x.name.toList) 77 #[.pointer (some ⟨w.heap.size, 0, none⟩)] eg1 _ before W (hb.up h) fun W' y A' c' hb' _ _ => check1_any y A' c' w.heap.size x.name W' (by
      have := hb'.cell (p := ⟨w.heap.size, 0, none⟩) (World.block_lt_of_cell? _ _ hc)
      rw [this]; exact hc))
  have C3 := Lib.hid (fun W (h : Below w.heap.size w W) => containsFuncI_any (fun n => outB n 1 64) 79 #[] eg2 _ x.rows W (hr.up h) fun W' n _ _ => check2_any n W')
  have C4 := Lib.hid (fun W => outside_int x.queue 0 64 W)
  have hE := Lib.hid (show secE x before = if nameB x.name = false then 6 else if (before.any fun y => y.name.toList == x.name.toList) then 8 else if x.rows.length = 0 then 6 else if 16 < x.rows.length then 3 else if x.rows.any (fun n => outB n 1 64) then 7 else if outB x.queue 0 64 then 7 else 0 from rfl)
  generalize nameB x.name = b1 at C1 hE
  generalize (before.any fun y => y.name.toList == x.name.toList) = b2 at C2 hE
  generalize x.rows.any (fun n => outB n 1 64) = b3 at C3 hE
  generalize outB x.queue 0 64 = b4 at C4 hE
  generalize secE x before = E at hE ⊢
  clear eg1 eg2 hr hb hn
  cases b1 with
  | false =>
    go_enter Tryz.func57, Tryz.ntmps57
    go_wp2_with fail
    refine (C1.out _).mono ?_
    rintro e w1 ⟨rfl, hb1⟩
    have k0 := box_cell hb1 0 _ rfl
    have k1 := box_cell hb1 1 _ rfl
    have k2 := box_cell hb1 2 _ rfl
    have z1 := box_lt hb1
    have hb1' : Below w.heap.size w w1 := (ba _ _).trans (hb1.mono (by simp))
    go_wp2_with fail
    go_ret
    exact ⟨ret_int (by rw [hE.out]; simp), hb1'⟩
  | true =>
    cases b2 with
    | true =>
      go_enter Tryz.func57, Tryz.ntmps57
      go_wp2_with fail
      refine (C1.out _).mono ?_
      rintro e w1 ⟨rfl, hb1⟩
      have k0 := box_cell hb1 0 _ rfl
      have k1 := box_cell hb1 1 _ rfl
      have k2 := box_cell hb1 2 _ rfl
      have z1 := box_lt hb1
      have hb1' : Below w.heap.size w w1 := (ba _ _).trans (hb1.mono (by simp))
      go_wp2_with fail
      refine (C2.out _ hb1' k0).mono ?_
      rintro e w2 ⟨rfl, hb2⟩
      have l0 := cell_later hb2 k0
      have l1 := cell_later hb2 k1
      have l2 := cell_later hb2 k2
      have z2 : w.heap.size < w2.heap.size := Nat.lt_of_lt_of_le z1 hb2.size
      have hb2' : Below w.heap.size w w2 := hb1'.trans (hb2.mono hb1'.size)
      clear k0 k1 k2 z1 hb1 hb2
      go_wp2_with fail
      go_ret
      exact ⟨ret_int (by rw [hE.out]; simp), hb2'⟩
    | false =>
      by_cases g1 : x.rows.length = 0
      · have g1' : ((x.rows.length : Int) == 0) = true := by simp [g1]
        go_enter Tryz.func57, Tryz.ntmps57
        go_wp2_with fail
        refine (C1.out _).mono ?_
        rintro e w1 ⟨rfl, hb1⟩
        have k0 := box_cell hb1 0 _ rfl
        have k1 := box_cell hb1 1 _ rfl
        have k2 := box_cell hb1 2 _ rfl
        have z1 := box_lt hb1
        have hb1' : Below w.heap.size w w1 := (ba _ _).trans (hb1.mono (by simp))
        go_wp2_with fail
        refine (C2.out _ hb1' k0).mono ?_
        rintro e w2 ⟨rfl, hb2⟩
        have l0 := cell_later hb2 k0
        have l1 := cell_later hb2 k1
        have l2 := cell_later hb2 k2
        have z2 : w.heap.size < w2.heap.size := Nat.lt_of_lt_of_le z1 hb2.size
        have hb2' : Below w.heap.size w w2 := hb1'.trans (hb2.mono hb1'.size)
        clear k0 k1 k2 z1 hb1 hb2
        go_wp2_with fail
        go_ret
        exact ⟨ret_int (by rw [hE.out]; simp [g1]), hb2'⟩
      have g1' : ((x.rows.length : Int) == 0) = false := by simpa using g1
      by_cases g2 : 16 < x.rows.length
      · have g2' : decide (16 < (x.rows.length : Int)) = true := by simp; omega
        go_enter Tryz.func57, Tryz.ntmps57
        go_wp2_with fail
        refine (C1.out _).mono ?_
        rintro e w1 ⟨rfl, hb1⟩
        have k0 := box_cell hb1 0 _ rfl
        have k1 := box_cell hb1 1 _ rfl
        have k2 := box_cell hb1 2 _ rfl
        have z1 := box_lt hb1
        have hb1' : Below w.heap.size w w1 := (ba _ _).trans (hb1.mono (by simp))
        go_wp2_with fail
        refine (C2.out _ hb1' k0).mono ?_
        rintro e w2 ⟨rfl, hb2⟩
        have l0 := cell_later hb2 k0
        have l1 := cell_later hb2 k1
        have l2 := cell_later hb2 k2
        have z2 : w.heap.size < w2.heap.size := Nat.lt_of_lt_of_le z1 hb2.size
        have hb2' : Below w.heap.size w w2 := hb1'.trans (hb2.mono hb1'.size)
        clear k0 k1 k2 z1 hb1 hb2
        go_wp2_with fail
        go_ret
        exact ⟨ret_int (by rw [hE.out]; simp [g1, g2]), hb2'⟩
      have g2' : decide (16 < (x.rows.length : Int)) = false := by simp; omega
      cases b3 with
      | true =>
        go_enter Tryz.func57, Tryz.ntmps57
        go_wp2_with fail
        refine (C1.out _).mono ?_
        rintro e w1 ⟨rfl, hb1⟩
        have k0 := box_cell hb1 0 _ rfl
        have k1 := box_cell hb1 1 _ rfl
        have k2 := box_cell hb1 2 _ rfl
        have z1 := box_lt hb1
        have hb1' : Below w.heap.size w w1 := (ba _ _).trans (hb1.mono (by simp))
        go_wp2_with fail
        refine (C2.out _ hb1' k0).mono ?_
        rintro e w2 ⟨rfl, hb2⟩
        have l0 := cell_later hb2 k0
        have l1 := cell_later hb2 k1
        have l2 := cell_later hb2 k2
        have z2 : w.heap.size < w2.heap.size := Nat.lt_of_lt_of_le z1 hb2.size
        have hb2' : Below w.heap.size w w2 := hb1'.trans (hb2.mono hb1'.size)
        clear k0 k1 k2 z1 hb1 hb2
        go_wp2_with fail
        refine (C3.out _ hb2').mono ?_
        rintro e w3 ⟨rfl, hb3⟩
        have m0 := cell_later hb3 l0
        have m1 := cell_later hb3 l1
        have m2 := cell_later hb3 l2
        have z3 : w.heap.size < w3.heap.size := Nat.lt_of_lt_of_le z2 hb3.size
        have hb3' : Below w.heap.size w w3 := hb2'.trans (hb3.mono hb2'.size)
        clear l0 l1 l2 z2 hb3
        go_wp2_with fail
        go_ret
        exact ⟨ret_int (by rw [hE.out]; simp [g1, g2]), hb3'⟩
      | false =>
        cases b4 with
        | true =>
          go_enter Tryz.func57, Tryz.ntmps57
          go_wp2_with fail
          refine (C1.out _).mono ?_
          rintro e w1 ⟨rfl, hb1⟩
          have k0 := box_cell hb1 0 _ rfl
          have k1 := box_cell hb1 1 _ rfl
          have k2 := box_cell hb1 2 _ rfl
          have z1 := box_lt hb1
          have hb1' : Below w.heap.size w w1 := (ba _ _).trans (hb1.mono (by simp))
          go_wp2_with fail
          refine (C2.out _ hb1' k0).mono ?_
          rintro e w2 ⟨rfl, hb2⟩
          have l0 := cell_later hb2 k0
          have l1 := cell_later hb2 k1
          have l2 := cell_later hb2 k2
          have z2 : w.heap.size < w2.heap.size := Nat.lt_of_lt_of_le z1 hb2.size
          have hb2' : Below w.heap.size w w2 := hb1'.trans (hb2.mono hb1'.size)
          clear k0 k1 k2 z1 hb1 hb2
          go_wp2_with fail
          refine (C3.out _ hb2').mono ?_
          rintro e w3 ⟨rfl, hb3⟩
          have m0 := cell_later hb3 l0
          have m1 := cell_later hb3 l1
          have m2 := cell_later hb3 l2
          have z3 : w.heap.size < w3.heap.size := Nat.lt_of_lt_of_le z2 hb3.size
          have hb3' : Below w.heap.size w w3 := hb2'.trans (hb3.mono hb2'.size)
          clear l0 l1 l2 z2 hb3
          go_wp2_with fail
          refine (C4.out _).mono ?_
          rintro e w4 ⟨rfl, rfl⟩
          go_wp2_with fail
          go_ret
          exact ⟨ret_int (by rw [hE.out]; simp [g1, g2]), hb3'⟩
        | false =>
          go_enter Tryz.func57, Tryz.ntmps57
          go_wp2_with fail
          refine (C1.out _).mono ?_
          rintro e w1 ⟨rfl, hb1⟩
          have k0 := box_cell hb1 0 _ rfl
          have k1 := box_cell hb1 1 _ rfl
          have k2 := box_cell hb1 2 _ rfl
          have z1 := box_lt hb1
          have hb1' : Below w.heap.size w w1 := (ba _ _).trans (hb1.mono (by simp))
          go_wp2_with fail
          refine (C2.out _ hb1' k0).mono ?_
          rintro e w2 ⟨rfl, hb2⟩
          have l0 := cell_later hb2 k0
          have l1 := cell_later hb2 k1
          have l2 := cell_later hb2 k2
          have z2 : w.heap.size < w2.heap.size := Nat.lt_of_lt_of_le z1 hb2.size
          have hb2' : Below w.heap.size w w2 := hb1'.trans (hb2.mono hb1'.size)
          clear k0 k1 k2 z1 hb1 hb2
          go_wp2_with fail
          refine (C3.out _ hb2').mono ?_
          rintro e w3 ⟨rfl, hb3⟩
          have m0 := cell_later hb3 l0
          have m1 := cell_later hb3 l1
          have m2 := cell_later hb3 l2
          have z3 : w.heap.size < w3.heap.size := Nat.lt_of_lt_of_le z2 hb3.size
          have hb3' : Below w.heap.size w w3 := hb2'.trans (hb3.mono hb2'.size)
          clear l0 l1 l2 z2 hb3
          go_wp2_with fail
          refine (C4.out _).mono ?_
          rintro e w4 ⟨rfl, rfl⟩
          go_wp2_with fail
          go_ret
          exact ⟨ret_int (by rw [hE.out]; simp [g1, g2]), hb3'⟩
end Go.Proofs.YtcomfhigbjkoeaaGreatDoor
