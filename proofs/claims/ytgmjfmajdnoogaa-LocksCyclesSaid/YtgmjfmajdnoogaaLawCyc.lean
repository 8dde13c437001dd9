/-
  The walk of the law LocksCycles: it returns true. Conditions: as the theorem says.
-/
import Derived.Test.YtgmjfmajdnoogaaLkL
import Derived.Test.YtgmjfmajdnoogaaPlCycB
import Derived.Test.YtgmjfmajdnoogaaLibQ
namespace Go.Proofs.Ytgmjfmajdnoogaa
open Go.RowKit

set_option maxHeartbeats 400000 in
theorem lawCycles_any (v1 v2 : Value) (s : St) (w : World) (h1 : Sl intR w v1 s.hs) (h2 : Sl wtR w v2 s.ws) :
    Calls Try.prog 3 #[.agg #[v1, v2]] w fun e w' => e = .returned (.bool true) ∧ Below w.heap.size w w' := by
  obtain ⟨A, c, rfl, hc, hm, h1⟩ := h1.open
  obtain ⟨A', c', rfl, _, hm', h2⟩ := h2.open
  have hl : s.hs.length ≤ 9223372036854775807 := by omega
  have hl' : s.ws.length ≤ 9223372036854775807 := by omega
  by_cases g1 : 100 < s.hs.length
  · go_enter Try.func3, Try.ntmps3
    go_wp2_with (go_at_call 9; refine (awake_any _).mono ?_; rintro e w1 ⟨rfl, hb1⟩)
    go_ret
    exact ⟨rfl, (ba _ _).trans (hb1.mono (by simp))⟩
  by_cases g2 : 300 < s.ws.length
  · go_enter Try.func3, Try.ntmps3
    go_wp2_with (go_at_call 9; refine (awake_any _).mono ?_; rintro e w1 ⟨rfl, hb1⟩)
    go_ret
    exact ⟨rfl, (ba _ _).trans (hb1.mono (by simp))⟩
  have C1 := Lib.hid (fun W (hb : Below w.heap.size w W) => check_any _ _ s W (h1.up hb) (h2.up hb))
  have C2 := Lib.hid (fun W (hb : Below w.heap.size w W) => cycle_any _ _ s W (h1.up hb) (h2.up hb))
  by_cases q1 : chk s = 0
  · have hin := fun k hk => (lock_in q1 (k := k) hk).2
    have C3 := Lib.hid (fun W t (hb : Below w.heap.size w W) => holder_any _ _ s t W (h1.up hb) (h2.up hb) hin)
    have HS2 := Lib.hid h2
    have hT := Lib.hid (show cycS s = ((s.ws.findSome? (chaseW (nxt s.hs s.ws) s.ws.length)).getD [], 0) by rw [cycS, if_neg (by simpa using q1)])
    have hL1 := Lib.hid (fun c (hc : (s.ws.findSome? (chaseW (nxt s.hs s.ws) s.ws.length)).getD [] = c) (hne : 0 < c.length) => cyc_some q1 hc hne)
    have hL2 := Lib.hid (fun hc x hx => cyc_none (x := x) q1 hc hx)
    generalize hcc : (s.ws.findSome? (chaseW (nxt s.hs s.ws) s.ws.length)).getD [] = cc at hT
    have HCC := Lib.hid hcc
    have H1 := Lib.hid q1
    clear hin h1 h2 q1 hcc
    go_enter Try.func3, Try.ntmps3
    go_wp2_with fail
    refine (C2.out _ (ba _ _)).mono fun e w1 h => ?_
    obtain ⟨Ac, d, rfl, hlc, hb1⟩ := ints_form hT.out h
    clear h
    have k0 := box_cell hb1 0 _ rfl
    have k1 := box_cell hb1 1 _ rfl
    have z1 := box_lt hb1
    have HB1 := Lib.hid ((ba w _).trans (hb1.mono (by simp)))
    have HLC := Lib.hid hlc
    have hdl : cc.length ≤ 9223372036854775807 := by obtain ⟨A, c, he, h1, h2, _⟩ := hlc; omega
    clear hb1 hlc
    go_wp2_with fail
    go_loopw [5] (fun i wr => ∃ k : Nat, k ≤ cc.length ∧ i = .int .i64 k ∧ Hid (Below w1.heap.size w1 wr)) (fun i _ => cc.length - (intOf i).toNat)
    case atStart => exact ⟨0, by omega, rfl, Below.refl _ _⟩
    case round =>
      obtain ⟨k, hk, rfl, hb⟩ := hrel
      have HBw := Lib.hid (HB1.out.trans (hb.out.mono HB1.out.size))
      have l0 := cell_later hb.out k0
      have l1 := cell_later hb.out k1
      have zr : w.heap.size < wr.heap.size := Nat.lt_of_lt_of_le z1 hb.out.size
      by_cases hlt : k < cc.length
      · have hne : 0 < cc.length := by omega
        have hmod : (k + 1) % cc.length < cc.length := Nat.mod_lt _ hne
        obtain ⟨hlo, hnx, haft⟩ := hL1.out cc HCC.out hne k hlt
        obtain ⟨b, off, rfl, hbl, e0, _⟩ := (HLC.out.up hb.out).atI hlt
        obtain ⟨b1, off1, he1, _, e1, _⟩ := (HLC.out.up hb.out).atI hne
        injection he1 with he1
        injection he1 with he1 he2
        subst he1 he2
        obtain ⟨b1, off1, he1, _, e2, _⟩ := (HLC.out.up hb.out).atI hmod
        injection he1 with he1
        injection he1 with he1 he2
        subst he1 he2
        rw [Nat.add_zero] at e1
        have m0 : (0 : Int) ≤ ((k : Int) + 1) % (cc.length : Int) := Int.emod_nonneg _ (by omega)
        have m1 : ((k : Int) + 1) % (cc.length : Int) < (cc.length : Int) := Int.emod_lt_of_pos _ (by omega)
        have f0 := gro_cell e0
        have f1 := gro_cell e1
        have f2 := gro_cell e2
        have f3 := gro_cell l0
        have f4 := gro_cell l1
        have b0 : decide (cc[k] < cc[0]) = false := by simp; omega
        have b2 : (aft s cc[k] != cc[(k + 1) % cc.length]'hmod) = false := by rw [haft]; simp
        have HN := Lib.hid hnx
        clear hnx haft hlo
        by_cases hk0 : 0 < k
        · have b3 : decide (0 < (k : Int)) = true := by simp; omega
          have b1 : (cc[k] == cc[0]) = false := by simpa using HN.out hk0
          go_wp2_with fail
          refine wp_region_gro (by kernel_rfl) (by kernel_rfl) ?_
          repeat (go_big_quiet_step ((go_at_call 12; exact Calls.gro_of (C3.out _ _ (HBw.out.trans ((gro_below _ _).mono HBw.out.size))))))
          refine wpQuiet_nil ?_
          rintro _ ⟨p, rfl⟩
          have hq := gro_below wr p
          generalize gro wr p = wq at hq
          go_wp2_with fail
          go_roundw
          case rel => exact ⟨k + 1, by omega, by go_num, hb.out.trans (hq.mono hb.out.size)⟩
          case measure => simp [intOf]; omega
        · have b3 : decide (0 < (k : Int)) = false := by simp; omega
          go_wp2_with fail
          refine wp_region_gro (by kernel_rfl) (by kernel_rfl) ?_
          repeat (go_big_quiet_step ((go_at_call 12; exact Calls.gro_of (C3.out _ _ (HBw.out.trans ((gro_below _ _).mono HBw.out.size))))))
          refine wpQuiet_nil ?_
          rintro _ ⟨p, rfl⟩
          have hq := gro_below wr p
          generalize gro wr p = wq at hq
          go_wp2_with fail
          go_roundw
          case rel => exact ⟨k + 1, by omega, by go_num, hb.out.trans (hq.mono hb.out.size)⟩
          case measure => simp [intOf]; omega
      · by_cases hne : 0 < cc.length
        · go_wp2_with (go_at_call 9; refine (awake_any _).mono ?_; rintro e w3 ⟨rfl, hb3⟩)
          go_ret
          exact ⟨rfl, HBw.out.trans (hb3.mono HBw.out.size)⟩
        · have hnil : cc = [] := List.eq_nil_of_length_eq_zero (by omega)
          have HE := Lib.hid (hL2.out (HCC.out.trans hnil))
          clear hL1 hL2 HCC hnil
          go_wp2_with fail
          obtain ⟨wb, rfl⟩ : ∃ wb : World, wb = wr := ⟨_, rfl⟩
          go_loopw [6] (fun i wr => ∃ j : Nat, j ≤ s.ws.length ∧ i = .int .i64 j ∧ Hid (Below w1.heap.size w1 wr)) (fun i _ => s.ws.length - (intOf i).toNat)
          case atStart => exact ⟨0, by omega, rfl, hb.out⟩
          case round =>
            clear l0 l1 zr hb HBw
            obtain ⟨j, hj, rfl, hb⟩ := hrel
            have HBw := Lib.hid (HB1.out.trans (hb.out.mono HB1.out.size))
            have l0 := cell_later hb.out k0
            have l1 := cell_later hb.out k1
            have zr : w.heap.size < wr.heap.size := Nat.lt_of_lt_of_le z1 hb.out.size
            by_cases hlt : j < s.ws.length
            · obtain ⟨b', off', rfl, hbl', d0, d1, bd0, _⟩ := (HS2.out.up HBw.out).atW hlt
              have hend := Lib.hid (HE.out _ (List.getElem_mem hlt))
              go_wp2_with fail
              obtain ⟨wo, rfl⟩ : ∃ wo : World, wo = wr := ⟨_, rfl⟩
              go_loopw [7, 8] (fun t i wr => ∃ (m : Nat) (x : Int), m ≤ s.ws.length + 1 ∧ i = .int .i64 m ∧ t = .int .i64 x ∧ Hid (x = it (aft s) m s.ws[j].task) ∧ Hid (Below w1.heap.size w1 wr)) (fun _ i _ => s.ws.length + 1 - (intOf i).toNat)
              case atStart => exact ⟨0, _, by omega, rfl, rfl, rfl, hb.out⟩
              case round =>
                clear l0 l1 zr hb HBw
                obtain ⟨m, x, hm, rfl, rfl, hx, hb⟩ := hrel
                have HBw := Lib.hid (HB1.out.trans (hb.out.mono HB1.out.size))
                have l0 := cell_later hb.out k0
                have l1 := cell_later hb.out k1
                have zr : w.heap.size < wr.heap.size := Nat.lt_of_lt_of_le z1 hb.out.size
                by_cases c0 : x = 0
                · have c0' : (x != 0) = false := by simpa using c0
                  clear c0
                  by_cases cm : m ≤ s.ws.length
                  · go_wp2_with fail
                    go_roundw
                    case rel => exact ⟨j + 1, by omega, by go_num, hb.out⟩
                    case measure => simp [intOf]; omega
                  · go_wp2_with fail
                    go_roundw
                    case rel => exact ⟨j + 1, by omega, by go_num, hb.out⟩
                    case measure => simp [intOf]; omega
                · have cm : m ≤ s.ws.length := by
                    rcases Nat.lt_or_ge s.ws.length m with h | h
                    · exact absurd (by rw [hx.out, show m = s.ws.length + 1 by omega]; exact hend.out) c0
                    · exact h
                  have c0' : (x != 0) = true := by simpa using c0
                  clear c0
                  go_wp2_with (go_at_call 12; refine (C3.out _ x HBw.out).mono ?_; rintro e w3 ⟨rfl, hb3⟩)
                  go_roundw
                  case rel => exact ⟨m + 1, _, by omega, by go_num, rfl, Lib.hid (by rw [it_succ, hx.out]), hb.out.trans (hb3.mono hb.out.size)⟩
                  case measure => simp [intOf]; omega
            · go_wp2_with (go_at_call 9; refine (awake_any _).mono ?_; rintro e w3 ⟨rfl, hb3⟩)
              go_ret
              exact ⟨rfl, HBw.out.trans (hb3.mono HBw.out.size)⟩
  · have q1' : (chk s != 0) = true := by simpa using q1
    have hT := Lib.hid (show cycS s = ([], chk s) by rw [cycS, if_pos (by simpa using q1)])
    clear q1 h1 h2
    go_enter Try.func3, Try.ntmps3
    go_wp2_with fail
    refine (C2.out _ (ba _ _)).mono fun e w1 h => ?_
    obtain ⟨Ac, d, rfl, hlc, hb1⟩ := ints_form hT.out h
    clear h
    have k0 := box_cell hb1 0 _ rfl
    have k1 := box_cell hb1 1 _ rfl
    have z1 := box_lt hb1
    have HB1 := Lib.hid ((ba w _).trans (hb1.mono (by simp)))
    clear hb1 hlc
    go_wp2_with (first
      | (go_at_call 11; refine (C1.out _ HB1.out).mono ?_; rintro e w2 ⟨rfl, hb2⟩)
      | (go_at_call 9; refine (awake_any _).mono ?_; rintro e w3 ⟨rfl, hb3⟩))
    go_ret
    exact ⟨rfl, HB1.out.trans ((hb2.trans (hb3.mono hb2.size)).mono HB1.out.size)⟩
end Go.Proofs.Ytgmjfmajdnoogaa
