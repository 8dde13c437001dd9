/-
  The walk of the law LocksOrder: it returns true. Conditions: as the theorem says.
-/
import Derived.Test.YtgmjfmajdnoogaaLkLed
import Derived.Test.YtgmjfmajdnoogaaLkL
import Derived.Test.YtgmjfmajdnoogaaLibQ
namespace Go.Proofs.Ytgmjfmajdnoogaa
open Go.RowKit

set_option maxHeartbeats 1000000 in
theorem lawOrder_any (n : Int) (v : Value) (xs : List Cl) (w : World) (hn0 : 0 ≤ n) (hn1 : n ≤ 255) (hs : Sl clR w v xs) :
    Calls Try.prog 6 #[.int .u8 n, v] w fun e w' => e = .returned (.bool true) ∧ Below w.heap.size w w' := by
  obtain ⟨A, c, rfl, hc, hm, hs⟩ := hs.open
  have hl : xs.length ≤ 9223372036854775807 := by omega
  by_cases g1 : 100 < xs.length
  · go_enter Try.func6, Try.ntmps6
    go_wp2_with (go_at_call 9; refine (awake_any _).mono ?_; rintro e w1 ⟨rfl, hb1⟩)
    go_ret
    exact ⟨rfl, hb1⟩
  have C0 := Lib.hid (led_any n _ xs w hn0 hn1 hs)
  clear hs
  go_enter Try.func6, Try.ntmps6
  go_wp2_with fail
  refine C0.out.mono ?_
  rintro e w1 ⟨v, s, rfl, hst, hi, hb1⟩
  obtain ⟨A1, d1, A2, d2, rfl, i1, i2⟩ := hst.form
  have hl1 : s.hs.length ≤ 64 := (chk_parts hi.1).1
  have hl2 : s.ws.length ≤ 200 := (chk_ok hi.1).2.1
  have HI := Lib.hid hi
  have HB1 := Lib.hid hb1
  have I1 := Lib.hid (And.intro i1 i2)
  clear hst hb1 i1 i2 hi
  go_wp2_with fail
  refine at_call (fun W => Below w.heap.size w W ∧ Cells W w1.heap.size [.slice A1 s.hs.length d1, .slice A2 s.ws.length d2] ∧ Sl intR W (.slice A1 s.hs.length d1) s.hs ∧ Sl wtR W (.slice A2 s.ws.length d2) s.ws)
    ⟨bal HB1.out, Cells.new _ _ _, I1.out.1.up (ba _ _), I1.out.2.up (ba _ _)⟩ fun W2 ⟨hb2, k0, i1, i2⟩ => ?_
  have HB2 := Lib.hid hb2
  have K0 := Lib.hid k0
  have HS1 := Lib.hid i1
  have HS2 := Lib.hid i2
  have hT1 := Lib.hid (ord_cyc HI.out)
  have hT2 := Lib.hid (show blockedS s = ((s.ws.filter (blk s)).map (·.task), 0) by rw [blockedS, if_neg (by simp [HI.out.1])])
  clear hb2 k0 i1 i2 HB1 I1
  refine (cycle_any _ _ s W2 HS1.out HS2.out).mono fun e w3 h => ?_
  obtain ⟨A3, d3, rfl, _, hb3⟩ := ints_form hT1.out h
  clear h
  have HB3 := Lib.hid hb3
  have c0 := (K0.out.later hb3).c 0 _ rfl
  have c1 := (K0.out.later hb3).c 1 _ rfl
  have y0 := (K0.out.later hb3).lt
  clear hb3
  go_wp2_with fail
  refine (blocked_any _ _ s w3 (HS1.out.up HB3.out) (HS2.out.up HB3.out)).mono fun e w4 h => ?_
  obtain ⟨A4, d4, rfl, _, hb4⟩ := ints_form hT2.out h
  clear h
  have HB4 := Lib.hid (HB3.out.trans (hb4.mono HB3.out.size))
  have HW4 := Lib.hid (HB2.out.trans (HB4.out.mono HB2.out.size))
  have hn4 : ((s.ws.filter (blk s)).map (·.task)).length ≤ 200 := by simp; exact Nat.le_trans (List.length_filter_le _ _) hl2
  generalize ((s.ws.filter (blk s)).map (·.task)).length = nb at hn4 ⊢
  clear c0 c1 y0
  have c0 := (K0.out.later HB4.out).c 0 _ rfl
  have c1 := (K0.out.later HB4.out).c 1 _ rfl
  have y0 := (K0.out.later HB4.out).lt
  clear hb4 HB3 hT1 hT2
  by_cases g2 : nb < s.ws.length
  · go_wp2_with (go_at_call 9; refine (awake_any _).mono ?_; rintro e w5 ⟨rfl, hb5⟩)
    go_ret
    exact ⟨rfl, HW4.out.trans (hb5.mono HW4.out.size)⟩
  by_cases g3 : s.ws.length = 0
  · have g3' : ((s.ws.length : Int) == 0) = true := by simp [g3]
    go_wp2_with (go_at_call 9; refine (awake_any _).mono ?_; rintro e w5 ⟨rfl, hb5⟩)
    go_ret
    exact ⟨rfl, HW4.out.trans (hb5.mono HW4.out.size)⟩
  have g3' : ((s.ws.length : Int) == 0) = false := by simpa using g3
  obtain ⟨x, hx, hno⟩ := ord_end HI.out (by intro h; apply g3; rw [h]; rfl)
  obtain ⟨m, hm', hmx⟩ := List.getElem_of_mem hx
  have HNO := Lib.hid hno
  have HMX := Lib.hid hmx
  have HIN := Lib.hid (fun k (hk : k < s.ws.length) => (lock_in HI.out.1 hk).2)
  clear hx hno hmx
  go_wp2_with fail
  go_loopw [11] (fun i wr => ∃ k : Nat, k ≤ m ∧ i = .int .i64 k ∧ Hid (Below W2.heap.size W2 wr)) (fun i _ => m - (intOf i).toNat)
  case atStart => exact ⟨0, by omega, rfl, HB4.out⟩
  case round =>
    clear c0 c1 y0
    obtain ⟨k, hk, rfl, hb⟩ := hrel
    have hlt : k < s.ws.length := by omega
    have c0 := (K0.out.later hb.out).c 0 _ rfl
    have c1 := (K0.out.later hb.out).c 1 _ rfl
    have y0 := (K0.out.later hb.out).lt
    obtain ⟨b', off', rfl, hbl', e0, e1, bd0, _⟩ := (HS2.out.up hb.out).atW hlt
    obtain ⟨q0, q1⟩ := HIN.out k hlt
    obtain ⟨l, hle⟩ := Int.eq_ofNat_of_zero_le q0
    have hll : l < s.hs.length := by omega
    obtain ⟨b, off, rfl, hbl, e2, _⟩ := (HS1.out.up hb.out).atI hll
    rw [hle] at e1
    have HL := Lib.hid (show s.hs.getD s.ws[k].lock.toNat 0 = s.hs[l] by rw [hle, Int.toNat_natCast, List.getD_eq_getElem?_getD, List.getElem?_eq_getElem hll]; rfl)
    clear hle q0 q1
    go_wp2_with fail
    go_quiet (fail)
    go_wp2_with fail
    have hbq : Below W2.heap.size W2 (wr.drewN nq) := bdN hb.out nq
    generalize wr.drewN nq = wo at hbq ⊢
    clear c0 c1 y0 e0 e1 e2
    go_loopw [13, 14] (fun v i wr => ∃ (j : Nat) (a : Bool), j ≤ s.ws.length ∧ i = .int .i64 j ∧ v = .bool a ∧ Hid (a = (s.ws.take j).any fun y => y.task == s.hs[l]) ∧ Hid (Below W2.heap.size W2 wr)) (fun _ i _ => s.ws.length - (intOf i).toNat)
    case atStart => exact ⟨0, false, by omega, rfl, rfl, Lib.hid rfl, hbq⟩
    case round =>
      obtain ⟨j, a, hj, rfl, rfl, ha, hbr⟩ := hrel
      have c0 := (K0.out.later hbr.out).c 0 _ rfl
      have c1 := (K0.out.later hbr.out).c 1 _ rfl
      have y0 := (K0.out.later hbr.out).lt
      by_cases hjt : j < s.ws.length
      · obtain ⟨b2, off2, he, hb2, f0, _, _, _⟩ := (HS2.out.up hbr.out).atW hjt
        injection he with he
        injection he with he1 he2
        subst he1 he2
        have hstep := Lib.hid (show (s.ws.take (j + 1)).any (fun y => y.task == s.hs[l]) = (a || s.ws[j].task == s.hs[l]) by
          rw [List.take_succ_eq_append_getElem hjt, List.any_append, ← ha.out]; simp)
        cases a with
        | true =>
          go_wp2_with fail
          go_roundw
          case rel => exact ⟨j + 1, true, by omega, by go_num, rfl, Lib.hid (by rw [hstep.out]; rfl), hbr.out⟩
          case measure => simp [intOf]; omega
        | false =>
          cases q : (s.ws[j].task == s.hs[l]) with
          | true =>
            go_wp2_with fail
            go_roundw
            case rel => exact ⟨j + 1, true, by omega, by go_num, rfl, Lib.hid (by rw [hstep.out, q]; rfl), hbr.out⟩
            case measure => simp [intOf]; omega
          | false =>
            go_wp2_with fail
            go_roundw
            case rel => exact ⟨j + 1, false, by omega, by go_num, rfl, Lib.hid (by rw [hstep.out, q]; rfl), hbr.out⟩
            case measure => simp [intOf]; omega
      · have ha2 : a = s.ws.any fun y => y.task == s.hs[l] := by
          have h1 := ha.out
          rwa [List.take_of_length_le (by omega)] at h1
        cases a with
        | true =>
          have hkm : k ≠ m := fun e => by
            subst e
            obtain ⟨y, hy, hye⟩ := List.any_eq_true.1 ha2.symm
            refine HNO.out y hy ?_
            rw [← HMX.out, HL.out]
            simpa using hye
          clear ha2
          go_wp2_with fail
          go_roundw
          case rel => exact ⟨k + 1, by omega, by go_num, hbr.out⟩
          case measure => simp [intOf]; omega
        | false =>
          clear ha2
          go_wp2_with (go_at_call 9; refine (awake_any _).mono ?_; rintro e w5 ⟨rfl, hb5⟩)
          go_ret
          exact ⟨rfl, (HB2.out.trans (hbr.out.mono HB2.out.size)).trans (hb5.mono (HB2.out.trans (hbr.out.mono HB2.out.size)).size)⟩
end Go.Proofs.Ytgmjfmajdnoogaa
