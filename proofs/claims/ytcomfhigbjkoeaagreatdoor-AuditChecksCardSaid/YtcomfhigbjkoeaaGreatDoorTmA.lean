/-
  Walks of times.none, times.Add. Conditions: as each theorem says.
-/
import Derived.Test.YtcomfhigbjkoeaaGreatDoorVnI
namespace Go.Proofs.YtcomfhigbjkoeaaGreatDoor
open Go.RowKit

/-- What times.Add answers. -/
def addT (t d : Int) : Int × Int := if t < 0 ∨ d < 0 then (0, 7) else if 9223372036854775807 < t + d then (9223372036854775807, 0) else (t + d, 0)

set_option maxHeartbeats 1000000 in
theorem min2_any (a b : Int) (B : Nat) (w : World) (h0 : w.cell? ⟨B, 0, none⟩ = some (.int .i64 a)) (h1 : w.cell? ⟨B, 1, none⟩ = some (.int .i64 b)) :
    Calls Tryz.prog 98 #[.slice (some ⟨B, 0, none⟩) 2 2] w fun e w' => e = .returned (.int .i64 (min a b)) ∧ Below w.heap.size w w' := by
  go_enter Tryz.func98, Tryz.ntmps98
  go_wp2
  go_loopw [3, 4] (fun m i wr => wr = w ∧ ((i = .int .i64 1 ∧ m = .int .i64 a) ∨ (i = .int .i64 2 ∧ m = .int .i64 (min a b)))) (fun _ i _ => 2 - (intOf i).toNat)
  case atStart => exact ⟨rfl, .inl ⟨rfl, rfl⟩⟩
  case round =>
    obtain ⟨rfl, ⟨rfl, rfl⟩ | ⟨rfl, rfl⟩⟩ := hrel
    · go_wp2
      exact ⟨⟨trivial, .inr ⟨rfl, rfl⟩⟩, by simp [intOf]⟩
    · go_wp2
      go_ret
      exact ⟨rfl, Below.refl _ _⟩

set_option maxHeartbeats 1000000 in
theorem none2_any (a b : Int) (B : Nat) (w : World) (h0 : w.cell? ⟨B, 0, none⟩ = some (.int .i64 a)) (h1 : w.cell? ⟨B, 1, none⟩ = some (.int .i64 b)) :
    Calls Tryz.prog 90 #[.slice (some ⟨B, 0, none⟩) 2 2] w fun e w' => e = .returned (.bool (decide (min a b < 0))) ∧ Below w.heap.size w w' := by
  have C := Lib.hid (min2_any a b B w h0 h1)
  generalize min a b = m at C ⊢
  go_enter Tryz.func90, Tryz.ntmps90
  go_wp2_with (go_at_call 98; refine C.out.mono ?_; rintro e w' ⟨rfl, hb⟩)
  go_ret
  exact ⟨rfl, hb⟩

set_option maxHeartbeats 1000000 in
theorem add_any (t d : Int) (w : World) (ht : Bd t) (hd : Bd d) :
    Calls Tryz.prog 83 #[.int .i64 t, .int .i64 d] w fun e w' => e = .returned (.tuple #[.int .i64 (addT t d).1, .int .i64 (addT t d).2]) ∧ Below w.heap.size w w' := by
  have C := Lib.hid (none2_any t d w.heap.size (w.alloc (.cells #[.int .i64 t, .int .i64 d] 2)) ((Cells.new w [.int .i64 t, .int .i64 d] _).c 0 _ rfl) ((Cells.new w [.int .i64 t, .int .i64 d] _).c 1 _ rfl))
  unfold Bd at ht hd
  by_cases h0 : t < 0 ∨ d < 0
  · have t0 : decide (min t d < 0) = true := by simp; omega
    have hT := Lib.hid (show addT t d = (0, 7) by rw [addT, if_pos h0])
    rw [t0] at C
    clear h0 t0
    go_enter Tryz.func83, Tryz.ntmps83
    go_wp2_with (go_at_call 90; refine C.out.mono ?_; rintro e w' ⟨rfl, hb⟩)
    go_ret2
    exact ⟨by rw [hT.out]; rfl, (ba _ _).trans (hb.mono (by simp))⟩
  · have t0 : decide (min t d < 0) = false := by simp; omega
    rw [t0] at C
    have ht0 : 0 ≤ t := by omega
    have hd0 : 0 ≤ d := by omega
    by_cases h1 : 9223372036854775807 < t + d
    · have hT := Lib.hid (show addT t d = (9223372036854775807, 0) by rw [addT, if_neg h0, if_pos h1])
      have r : ((t + d) / 9223372036854775808 == 0) = false := by simp; omega
      clear h0 t0
      go_enter Tryz.func83, Tryz.ntmps83
      go_wp2_with (go_at_call 90; refine C.out.mono ?_; rintro e w' ⟨rfl, hb⟩)
      go_ret2
      exact ⟨by rw [hT.out]; rfl, (ba _ _).trans (hb.mono (by simp))⟩
    · have hT := Lib.hid (show addT t d = (t + d, 0) by rw [addT, if_neg h0, if_neg h1])
      have r : ((t + d) / 9223372036854775808 == 0) = true := by simp; omega
      clear h0 t0
      go_enter Tryz.func83, Tryz.ntmps83
      go_wp2_with (go_at_call 90; refine C.out.mono ?_; rintro e w' ⟨rfl, hb⟩)
      go_ret2
      exact ⟨by rw [hT.out]; rfl, (ba _ _).trans (hb.mono (by simp))⟩
end Go.Proofs.YtcomfhigbjkoeaaGreatDoor
