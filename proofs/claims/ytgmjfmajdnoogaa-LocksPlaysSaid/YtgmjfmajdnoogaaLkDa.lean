/-
  Walks of groundlinglaw14.do, all arms together, and of the law LocksStates. Conditions: as each theorem says.
-/
import Derived.Test.YtgmjfmajdnoogaaLkDp
import Derived.Test.YtgmjfmajdnoogaaLkDq
import Derived.Test.YtgmjfmajdnoogaaLkDr
import Derived.Test.YtgmjfmajdnoogaaLkL
namespace Go.Proofs.Ytgmjfmajdnoogaa
open Go.RowKit

theorem do_any (v1 v2 : Value) (s : St) (what t l : Int) (w : World) (h1 : Sl intR w v1 s.hs) (h2 : Sl wtR w v2 s.ws) (z1 : s.hs.length ≤ 1000) (z2 : s.ws.length ≤ 1000) (hw0 : 0 ≤ what) (hw1 : what ≤ 255) (bt : Bd t) :
    Calls Try.prog 20 #[.agg #[v1, v2], .agg #[.int .u8 what, .int .i64 t, .int .i64 l]] w fun e w' => ∃ v, e = .returned (.tuple #[v, .bool true]) ∧ IsSt w' v (doS s what t l) ∧ Below w.heap.size w w' := by
  have h8 : what % 8 = 0 ∨ what % 8 = 1 ∨ what % 8 = 2 ∨ what % 8 = 3 ∨ what % 8 = 4 ∨ what % 8 = 5 ∨ what % 8 = 6 ∨ what % 8 = 7 := by omega
  rcases h8 with h | h | h | h | h | h | h | h
  · rw [show doS s what t l = (waitS s t l).1 by simp [doS, h]]; exact do_0 v1 v2 s what t l w h1 h2 z1 z2 hw0 hw1 bt h
  · rw [show doS s what t l = (takeS s t l).1 by simp [doS, h]]; exact do_1 v1 v2 s what t l w h1 h2 z1 z2 hw0 hw1 bt h
  · rw [show doS s what t l = (takeS s t l).1 by simp [doS, h]]; exact do_2 v1 v2 s what t l w h1 h2 z1 z2 hw0 hw1 bt h
  · rw [show doS s what t l = (giveS s t l).1 by simp [doS, h]]; exact do_3 v1 v2 s what t l w h1 h2 z1 z2 hw0 hw1 bt h
  · rw [show doS s what t l = s by simp [doS, h]]; exact do_4 v1 v2 s what t l w h1 h2 z1 z2 hw0 hw1 bt h
  · rw [show doS s what t l = s by simp [doS, h]]; exact do_5 v1 v2 s what t l w h1 h2 z1 z2 hw0 hw1 bt h
  · rw [show doS s what t l = s by simp [doS, h]]; exact do_6 v1 v2 s what t l w h1 h2 z1 z2 hw0 hw1 bt h
  · rw [show doS s what t l = s by simp [doS, h]]; exact do_7 v1 v2 s what t l w h1 h2 z1 z2 hw0 hw1 bt h

set_option maxHeartbeats 400000 in
theorem lawStates_any (v1 v2 : Value) (s : St) (what t l : Int) (w : World) (h1 : Sl intR w v1 s.hs) (h2 : Sl wtR w v2 s.ws) (bt : Bd t) :
    Calls Try.prog 5 #[.agg #[v1, v2], .agg #[.int .u8 what, .int .i64 t, .int .i64 l]] w fun e w' => e = .returned (.bool true) ∧ Below w.heap.size w w' := by
  obtain ⟨A, c, rfl, hc, hm, h1⟩ := h1.open
  obtain ⟨A', c', rfl, _, hm', h2⟩ := h2.open
  have hl : s.hs.length ≤ 9223372036854775807 := by omega
  have hl' : s.ws.length ≤ 9223372036854775807 := by omega
  by_cases g1 : 100 < s.hs.length
  · go_enter Try.func5, Try.ntmps5
    go_wp2_with (go_at_call 9; refine (awake_any _).mono ?_; rintro e w1 ⟨rfl, hb1⟩)
    go_ret
    exact ⟨rfl, (bal (ba _ _)).trans (hb1.mono (by simp; omega))⟩
  by_cases g2 : 300 < s.ws.length
  · go_enter Try.func5, Try.ntmps5
    go_wp2_with (go_at_call 9; refine (awake_any _).mono ?_; rintro e w1 ⟨rfl, hb1⟩)
    go_ret
    exact ⟨rfl, (bal (ba _ _)).trans (hb1.mono (by simp; omega))⟩
  have C1 := Lib.hid (fun W k (hb : Below w.heap.size w W) (k0 : 0 ≤ k) (k1 : k ≤ 255) => do_any _ _ s k t l W (h1.up hb) (h2.up hb) (by omega) (by omega) k0 k1 bt)
  clear h1 h2
  go_enter Try.func5, Try.ntmps5
  go_wp2_with fail
  refine at_world (fun W => Below w.heap.size w W ∧ Cells W w.heap.size [.slice A s.hs.length c, .slice A' s.ws.length c'] ∧ Cells W (w.heap.size + 1) [.int .u8 what, .int .i64 t, .int .i64 l])
    ⟨bal (ba _ _), (Cells.new _ _ _).alloc _, by have h := Cells.new (w.alloc (.cells #[.slice A s.hs.length c, .slice A' s.ws.length c'] 25)) [.int .u8 what, .int .i64 t, .int .i64 l] 42; simpa using h⟩ fun W0 ⟨hb0, k0, k1⟩ => ?_
  have HB0 := Lib.hid hb0
  have K0 := Lib.hid k0
  have K1 := Lib.hid k1
  clear hb0 k0 k1
  go_loopw [5] (fun i wr => ∃ k : Nat, k ≤ 8 ∧ i = .int .i64 k ∧ Hid (Below W0.heap.size W0 wr)) (fun i _ => 8 - (intOf i).toNat)
  case atStart => exact ⟨0, by omega, rfl, Below.refl _ _⟩
  case round =>
    obtain ⟨k, hk, rfl, hb⟩ := hrel
    have HBw := Lib.hid (HB0.out.trans (hb.out.mono HB0.out.size))
    have c0 := (K0.out.later hb.out).c 0 _ rfl
    have c1 := (K0.out.later hb.out).c 1 _ rfl
    have b1 := (K1.out.later hb.out).c 1 _ rfl
    have b2 := (K1.out.later hb.out).c 2 _ rfl
    have y0 := (K0.out.later hb.out).lt
    have y1 := (K1.out.later hb.out).lt
    by_cases hlt : k < 8
    · have hcv : IntKind.u8.wrap (k : Int) = (k : Int) := by simp only [IntKind.wrap, IntKind.bits, IntKind.signed]; simp; omega
      go_wp2_with fail
      refine (C1.out _ (k : Int) HBw.out (by omega) (by omega)).mono ?_
      rintro e w3 ⟨v, rfl, hst, hb3⟩
      obtain ⟨B1, d1, B2, d2, rfl, _, _⟩ := hst.form
      go_wp2_with fail
      go_roundw
      case rel => exact ⟨k + 1, by omega, by go_num, bal (hb.out.trans (hb3.mono hb.out.size))⟩
      case measure => simp [intOf]; omega
    · go_wp2_with (go_at_call 9; refine (awake_any _).mono ?_; rintro e w3 ⟨rfl, hb3⟩)
      go_ret
      exact ⟨rfl, HBw.out.trans (hb3.mono HBw.out.size)⟩
end Go.Proofs.Ytgmjfmajdnoogaa
