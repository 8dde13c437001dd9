/-
  The walk of the law LocksOne: it returns true. Conditions: as the theorem says.
-/
import Derived.Test.YtgmjfmajdnoogaaLkLed
import Derived.Test.YtgmjfmajdnoogaaLkL
import Derived.Test.YtgmjfmajdnoogaaLibQ
import Derived.Test.YtgmjfmajdnoogaaLkU
import Derived.IntWalk
namespace Go.Proofs.Ytgmjfmajdnoogaa
open Go.RowKit

set_option maxHeartbeats 2000000 in
set_option maxRecDepth 20000 in
theorem lawOne_any (n : Int) (v : Value) (xs : List Cl) (what t l : Int) (w : World) (hn0 : 0 ≤ n) (hn1 : n ≤ 255) (hs : Sl clR w v xs) (bt : Bd t) :
    Calls Try.prog 8 #[.int .u8 n, v, .agg #[.int .u8 what, .int .i64 t, .int .i64 l]] w fun e w' => e = .returned (.bool true) ∧ Below w.heap.size w w' := by
  obtain ⟨A, c, rfl, hc, hm, hs⟩ := hs.open
  have hl : xs.length ≤ 9223372036854775807 := by omega
  by_cases g1 : 100 < xs.length
  · go_enter Try.func8, Try.ntmps8
    go_wp2_with (go_at_call 9; refine (awake_any _).mono ?_; rintro e w1 ⟨rfl, hb1⟩)
    go_ret
    exact ⟨rfl, (ba _ _).trans (hb1.mono (by simp))⟩
  have C0 := Lib.hid (fun W (hb : Below w.heap.size w W) => led_any n _ xs W hn0 hn1 (hs.up hb))
  clear hs
  go_enter Try.func8, Try.ntmps8
  go_wp2_with fail
  refine at_call (fun W => Below w.heap.size w W ∧ Cells W w.heap.size [.int .u8 what, .int .i64 t, .int .i64 l]) ⟨ba _ _, Cells.new _ _ _⟩ fun W0 ⟨hb0, k0⟩ => ?_
  refine (C0.out W0 hb0).mono ?_
  rintro e w1 ⟨v, s, rfl, hst, hi, hb1⟩
  obtain ⟨A1, d1, A2, d2, rfl, i1, i2⟩ := hst.form
  have hl1 : s.hs.length ≤ 64 := (chk_parts hi.1).1
  have hl2 : s.ws.length ≤ 200 := (chk_ok hi.1).2.1
  have HI := Lib.hid hi
  have HB1 := Lib.hid (hb0.trans (hb1.mono hb0.size))
  have K1 := Lib.hid (k0.later hb1)
  have I1 := Lib.hid (And.intro i1 i2)
  have b0 := (k0.later hb1).c 0 _ rfl
  have b1 := (k0.later hb1).c 1 _ rfl
  have b2 := (k0.later hb1).c 2 _ rfl
  have y0 := (k0.later hb1).lt
  clear hst hb0 hb1 i1 i2 hi k0
  go_wp2_with fail
  clear b0 b1 b2 y0
  refine at_call (fun W => Below w.heap.size w W ∧ Cells W w.heap.size [.int .u8 what, .int .i64 t, .int .i64 l] ∧ Cells W w1.heap.size [.slice A1 s.hs.length d1, .slice A2 s.ws.length d2] ∧ Sl intR W (.slice A1 s.hs.length d1) s.hs ∧ Sl wtR W (.slice A2 s.ws.length d2) s.ws)
    ⟨bal HB1.out, K1.out.alloc _, Cells.new _ _ _, I1.out.1.up (ba _ _), I1.out.2.up (ba _ _)⟩ fun W2 ⟨hb2, k1, k0, i1, i2⟩ => ?_
  have HB2 := Lib.hid hb2
  have K0 := Lib.hid k0
  have X0 := Lib.hid k1
  have HS1 := Lib.hid i1
  have HS2 := Lib.hid i2
  clear hb2 k0 k1 i1 i2 HB1 I1 K1
  cases hT1 : heldS s t with | mk P E
  cases hT2 : freeS s l with | mk FB FE
  cases hT3 : takeS s t l with | mk T G
  have h1 := Lib.hid hT1
  have h2 := Lib.hid hT2
  have h3 := Lib.hid hT3
  clear hT1 hT2 hT3
  refine (held_any _ _ s t W2 HS1.out HS2.out).mono fun e w3 h => ?_
  obtain ⟨A3, d3, rfl, hP, hb3⟩ := ints_form h1.out h
  clear h
  have HP := Lib.hid hP
  have D3 := Lib.hid hb3
  have c0 := (K0.out.later hb3).c 0 _ rfl
  have c1 := (K0.out.later hb3).c 1 _ rfl
  have b1 := (X0.out.later hb3).c 1 _ rfl
  have b2 := (X0.out.later hb3).c 2 _ rfl
  have y0 := (K0.out.later hb3).lt
  have y1 := (X0.out.later hb3).lt
  clear hP hb3
  go_wp2_with fail
  refine (free_any _ _ s l w3 (HS1.out.up D3.out) (HS2.out.up D3.out)).mono fun e w4 h => ?_
  rw [h2.out] at h
  obtain ⟨rfl, hb4⟩ := h
  have D4 := Lib.hid (D3.out.trans (hb4.mono D3.out.size))
  have HP4 := Lib.hid (HP.out.up hb4)
  clear hb4 c0 c1 b1 b2 y0 y1 HP D3
  have c0 := (K0.out.later D4.out).c 0 _ rfl
  have c1 := (K0.out.later D4.out).c 1 _ rfl
  have b1 := (X0.out.later D4.out).c 1 _ rfl
  have b2 := (X0.out.later D4.out).c 2 _ rfl
  have y0 := (K0.out.later D4.out).lt
  have y1 := (X0.out.later D4.out).lt
  go_wp2_with fail
  refine (take_any _ _ s t l w4 (HS1.out.up D4.out) (HS2.out.up D4.out) bt).mono fun e w5 h => ?_
  obtain ⟨A5, d5, A6, d6, rfl, i5, i6, hb5⟩ := st_form h3.out h
  clear h
  have D5 := Lib.hid (D4.out.trans (hb5.mono D4.out.size))
  have HP5 := Lib.hid (HP4.out.up hb5)
  have I5 := Lib.hid (And.intro i5 i6)
  clear hb5 c0 c1 b1 b2 y0 y1 HP4 D4 i5 i6
  have c0 := (K0.out.later D5.out).c 0 _ rfl
  have c1 := (K0.out.later D5.out).c 1 _ rfl
  have b1 := (X0.out.later D5.out).c 1 _ rfl
  have b2 := (X0.out.later D5.out).c 2 _ rfl
  have y0 := (K0.out.later D5.out).lt
  have y1 := (X0.out.later D5.out).lt
  have HW := Lib.hid (HB2.out.trans (D5.out.mono HB2.out.size))
  have hnP : P.length ≤ 64 := by
    have h := h1.out
    unfold heldS at h
    split at h
    · cases h; simp
    split at h
    · cases h
      have := places_len t s.hs 0
      omega
    · cases h; simp
  by_cases e1 : E = 0
  case neg =>
    have hG : G ≠ 0 := by have := one_err (t := t) (l := l) HI.out.1 (.inl (by rw [h1.out]; exact e1)); rwa [h3.out] at this
    have r1 : (E != 0) = true := by simpa using e1
    have r2 : (G != 0) = true := by simpa using hG
    clear e1 hG
    go_wp2_with (go_at_call 9; refine (awake_any _).mono ?_; rintro e w6 ⟨rfl, hb6⟩)
    go_ret
    exact ⟨rfl, (bal HW.out).trans (hb6.mono (bal HW.out).size)⟩
  by_cases e2 : FE = 0
  case neg =>
    have hG : G ≠ 0 := by have := one_err (t := t) (l := l) HI.out.1 (.inr (by rw [h2.out]; exact e2)); rwa [h3.out] at this
    have r1 : (FE != 0) = true := by simpa using e2
    have r2 : (G != 0) = true := by simpa using hG
    subst e1
    clear e2 hG
    go_wp2_with (go_at_call 9; refine (awake_any _).mono ?_; rintro e w6 ⟨rfl, hb6⟩)
    go_ret
    exact ⟨rfl, (bal HW.out).trans (hb6.mono (bal HW.out).size)⟩
  subst e1 e2
  have hiff := one_iff (t := t) (l := l) HI.out.1 (by rw [h1.out]) (by rw [h2.out])
  rw [h1.out, h2.out, h3.out] at hiff
  simp only at hiff
  by_cases e3 : G = 0
  case neg =>
    have hT : T = s := by
      have h := h3.out
      unfold takeS at h
      split at h
      · cases h; rfl
      split at h
      · cases h; rfl
      · cases h; exact absurd rfl e3
    have r1 : (G == 0) = false := by simpa using e3
    have r2 : (G != 0) = true := by simpa using e3
    have hsame : sameS s s = true := by simp [sameS]
    have C9 := Lib.hid (fun W a1 a2 a3 a4 => hsame ▸ same_any (.slice A1 s.hs.length d1) (.slice A2 s.ws.length d2) (.slice A5 s.hs.length d5) (.slice A6 s.ws.length d6) s s W a1 a2 a3 a4)
    have hno : ¬ (FB = true ∧ (P = [] ∨ P.getD (P.length - 1) 0 < l)) := fun h => e3 (hiff.2 h)
    clear hiff e3 hsame
    subst hT
    cases FB with
    | false =>
      clear hno
      go_wp2_with fail
      go_quiet (fail)
      refine at_world (fun W => Below W2.heap.size W2 W ∧ Cells W w5.heap.size [.slice A5 T.hs.length d5, .slice A6 T.ws.length d6] ∧ (Sl intR W (.slice A5 T.hs.length d5) T.hs ∧ Sl wtR W (.slice A6 T.ws.length d6) T.ws) ∧ Sl intR W (.slice A3 P.length d3) P)
        ⟨bdN (bal D5.out) _, (Cells.new _ _ _).drewN _, ⟨(I5.out.1.up (ba _ _)).up (bdN (Below.refl _ _) _), (I5.out.2.up (ba _ _)).up (bdN (Below.refl _ _) _)⟩, (HP5.out.up (ba _ _)).up (bdN (Below.refl _ _) _)⟩ fun W6 ⟨hb6, k6, i6, p6⟩ => ?_
      have D6 := Lib.hid hb6
      have K6 := Lib.hid k6
      have I6 := Lib.hid i6
      have P6 := Lib.hid p6
      clear c0 c1 b1 b2 y0 y1 hb6 k6 i6 p6
      have c0 := (K0.out.later D6.out).c 0 _ rfl
      have c1 := (K0.out.later D6.out).c 1 _ rfl
      have b1 := (X0.out.later D6.out).c 1 _ rfl
      have b2 := (X0.out.later D6.out).c 2 _ rfl
      have y0 := (K0.out.later D6.out).lt
      have y1 := (X0.out.later D6.out).lt
      have t0 := K6.out.c 0 _ rfl
      have t1 := K6.out.c 1 _ rfl
      have y2 := K6.out.lt
      go_wp2_with fail
      refine (C9.out _ (HS1.out.up D6.out) (HS2.out.up D6.out) I6.out.1 I6.out.2).mono ?_
      rintro e w7 ⟨rfl, hb7⟩
      have HW7 := Lib.hid ((HB2.out.trans (D6.out.mono HB2.out.size)).trans (hb7.mono (HB2.out.trans (D6.out.mono HB2.out.size)).size))
      clear hb7 c0 c1 t0 t1 b1 b2 y0 y1 y2
      go_wp2_with (go_at_call 9; refine (awake_any _).mono ?_; rintro e w8 ⟨rfl, hb8⟩)
      go_ret
      exact ⟨rfl, HW7.out.trans (hb8.mono HW7.out.size)⟩
    | true =>
      have hne : P ≠ [] := fun h => hno ⟨rfl, .inl h⟩
      have hlt : ¬ P.getD (P.length - 1) 0 < l := fun h => hno ⟨rfl, .inr h⟩
      clear hno
      obtain ⟨m, hm⟩ : ∃ m, P.length = m + 1 := ⟨P.length - 1, by have := List.length_pos_iff.2 hne; omega⟩
      have hml : m < P.length := by omega
      have hlt' : ¬ P[m] < l := by rwa [hm, Nat.add_sub_cancel, List.getD_eq_getElem?_getD, List.getElem?_eq_getElem hml] at hlt
      obtain ⟨b, off, rfl, hbl, e0, _⟩ := HP5.out.atI hml
      have r5 : decide (P[m] < l) = false := by simpa using hlt'
      have r6 : ((P.length : Int) == 0) = false := by simpa using hne
      have r7 : IntKind.i64.wrap ((P.length : Int) - 1) = (m : Int) := by rw [hm]; push_cast; rw [Int.add_sub_cancel]; exact IntWalk.i64_in _ (by omega)
      have m0 : (0 : Int) ≤ (m : Int) := by omega
      have m1 : (m : Int) < (P.length : Int) := by omega
      clear hlt hlt' hne hm
      generalize P[m] = pm at e0 r5
      go_wp2_with fail
      go_quiet (fail)
      refine at_world (fun W => Below W2.heap.size W2 W ∧ Cells W w5.heap.size [.slice A5 T.hs.length d5, .slice A6 T.ws.length d6] ∧ (Sl intR W (.slice A5 T.hs.length d5) T.hs ∧ Sl wtR W (.slice A6 T.ws.length d6) T.ws) ∧ Sl intR W (.slice (some ⟨b, off, none⟩) P.length d3) P)
        ⟨bdN (bal D5.out) _, (Cells.new _ _ _).drewN _, ⟨(I5.out.1.up (ba _ _)).up (bdN (Below.refl _ _) _), (I5.out.2.up (ba _ _)).up (bdN (Below.refl _ _) _)⟩, (HP5.out.up (ba _ _)).up (bdN (Below.refl _ _) _)⟩ fun W6 ⟨hb6, k6, i6, p6⟩ => ?_
      have D6 := Lib.hid hb6
      have K6 := Lib.hid k6
      have I6 := Lib.hid i6
      have P6 := Lib.hid p6
      clear c0 c1 b1 b2 y0 y1 hb6 k6 i6 p6
      have c0 := (K0.out.later D6.out).c 0 _ rfl
      have c1 := (K0.out.later D6.out).c 1 _ rfl
      have b1 := (X0.out.later D6.out).c 1 _ rfl
      have b2 := (X0.out.later D6.out).c 2 _ rfl
      have y0 := (K0.out.later D6.out).lt
      have y1 := (X0.out.later D6.out).lt
      have t0 := K6.out.c 0 _ rfl
      have t1 := K6.out.c 1 _ rfl
      have y2 := K6.out.lt
      go_wp2_with fail
      refine (C9.out _ (HS1.out.up D6.out) (HS2.out.up D6.out) I6.out.1 I6.out.2).mono ?_
      rintro e w7 ⟨rfl, hb7⟩
      have HW7 := Lib.hid ((HB2.out.trans (D6.out.mono HB2.out.size)).trans (hb7.mono (HB2.out.trans (D6.out.mono HB2.out.size)).size))
      clear hb7 c0 c1 t0 t1 b1 b2 y0 y1 y2
      go_wp2_with (go_at_call 9; refine (awake_any _).mono ?_; rintro e w8 ⟨rfl, hb8⟩)
      go_ret
      exact ⟨rfl, HW7.out.trans (hb8.mono HW7.out.size)⟩
  subst e3
  obtain ⟨hfb, hord⟩ := hiff.1 rfl
  subst hfb
  have hk := one_took (t := t) (l := l) HI.out (by rw [h3.out])
  rw [h3.out] at hk
  simp only at hk
  obtain ⟨hk1, hT4, hT5, hg1, hg2, hl0, hlr⟩ := hk
  rw [h1.out] at hT4
  replace hT4 := Lib.hid hT4
  replace hT5 := Lib.hid hT5
  clear hiff
  have HK1 := Lib.hid hk1
  have hTl := Lib.hid (show T.hs.length = s.hs.length by rw [hk1]; simp)
  clear hk1
  by_cases hne : P = []
  · have r6 : ((P.length : Int) == 0) = true := by simp [hne]
    clear hord hne
    go_wp2_with fail
    go_quiet (fail)
    clear r6
    refine at_world (fun W => Below W2.heap.size W2 W ∧ Cells W w5.heap.size [.slice A5 T.hs.length d5, .slice A6 T.ws.length d6] ∧ (Sl intR W (.slice A5 T.hs.length d5) T.hs ∧ Sl wtR W (.slice A6 T.ws.length d6) T.ws) ∧ Sl intR W (.slice A3 P.length d3) P)
      ⟨bdN (bal D5.out) _, (Cells.new _ _ _).drewN _, ⟨(I5.out.1.up (ba _ _)).up (bdN (Below.refl _ _) _), (I5.out.2.up (ba _ _)).up (bdN (Below.refl _ _) _)⟩, (HP5.out.up (ba _ _)).up (bdN (Below.refl _ _) _)⟩ fun W6 ⟨hb6, k6, i6, p6⟩ => ?_
    have D6 := Lib.hid hb6
    have K6 := Lib.hid k6
    have I6 := Lib.hid i6
    have P6 := Lib.hid p6
    clear c0 c1 b1 b2 y0 y1 hb6 k6 i6 p6
    have c0 := (K0.out.later D6.out).c 0 _ rfl
    have c1 := (K0.out.later D6.out).c 1 _ rfl
    have b1 := (X0.out.later D6.out).c 1 _ rfl
    have b2 := (X0.out.later D6.out).c 2 _ rfl
    have y0 := (K0.out.later D6.out).lt
    have y1 := (X0.out.later D6.out).lt
    have t0 := K6.out.c 0 _ rfl
    have t1 := K6.out.c 1 _ rfl
    have y2 := K6.out.lt
    go_wp2_with fail
    refine (held_any _ _ T t W6 I6.out.1 I6.out.2).mono fun e w7 h => ?_
    obtain ⟨A7, d7, rfl, q7, hb7⟩ := ints_form hT4.out h
    clear h
    have Q7 := Lib.hid q7
    have D7 := Lib.hid hb7
    clear q7 hb7 c0 c1 b1 b2 y0 y1 t0 t1 y2
    have c0 := (K0.out.later (D6.out.trans (D7.out.mono D6.out.size))).c 0 _ rfl
    have c1 := (K0.out.later (D6.out.trans (D7.out.mono D6.out.size))).c 1 _ rfl
    have b1 := (X0.out.later (D6.out.trans (D7.out.mono D6.out.size))).c 1 _ rfl
    have b2 := (X0.out.later (D6.out.trans (D7.out.mono D6.out.size))).c 2 _ rfl
    have t0 := (K6.out.later D7.out).c 0 _ rfl
    have t1 := (K6.out.later D7.out).c 1 _ rfl
    have y0 := (K0.out.later (D6.out.trans (D7.out.mono D6.out.size))).lt
    have y1 := (X0.out.later (D6.out.trans (D7.out.mono D6.out.size))).lt
    have y2 := (K6.out.later D7.out).lt
    go_wp2_with fail
    refine (free_any _ _ T l w7 (I6.out.1.up D7.out) (I6.out.2.up D7.out)).mono fun e w8 h => ?_
    rw [hT5.out] at h
    obtain ⟨rfl, hb8⟩ := h
    have Q8 := Lib.hid (Q7.out.up hb8)
    have D8 := Lib.hid (D7.out.trans (hb8.mono D7.out.size))
    clear hb8 Q7 D7 c0 c1 b1 b2 t0 t1 y0 y1 y2
    have c0 := (K0.out.later (D6.out.trans (D8.out.mono D6.out.size))).c 0 _ rfl
    have c1 := (K0.out.later (D6.out.trans (D8.out.mono D6.out.size))).c 1 _ rfl
    have b1 := (X0.out.later (D6.out.trans (D8.out.mono D6.out.size))).c 1 _ rfl
    have b2 := (X0.out.later (D6.out.trans (D8.out.mono D6.out.size))).c 2 _ rfl
    have t0 := (K6.out.later D8.out).c 0 _ rfl
    have t1 := (K6.out.later D8.out).c 1 _ rfl
    have y0 := (K0.out.later (D6.out.trans (D8.out.mono D6.out.size))).lt
    have y1 := (X0.out.later (D6.out.trans (D8.out.mono D6.out.size))).lt
    have y2 := (K6.out.later D8.out).lt
    go_wp2_with fail
    cases hT6 : giveS T t l with | mk R GE
    rw [hT6] at hg1 hg2
    obtain ⟨rhs, rws⟩ := R
    simp only at hg1 hg2
    subst hg1 hg2
    have hT7 := Lib.hid hT6
    clear hT6
    refine (give_any _ _ T t l w8 (I6.out.1.up D8.out) (I6.out.2.up D8.out)).mono fun e w9 h => ?_
    obtain ⟨A9, d9, A10, d10, rfl, i9, _, hb9⟩ := st_form hT7.out h
    clear h
    have Q9 := Lib.hid (Q8.out.up hb9)
    have D9 := Lib.hid (D8.out.trans (hb9.mono D8.out.size))
    have I9 := Lib.hid i9
    clear hb9 Q8 D8 i9 c0 c1 b1 b2 t0 t1 y0 y1 y2
    have c0 := (K0.out.later (D6.out.trans (D9.out.mono D6.out.size))).c 0 _ rfl
    have c1 := (K0.out.later (D6.out.trans (D9.out.mono D6.out.size))).c 1 _ rfl
    have b1 := (X0.out.later (D6.out.trans (D9.out.mono D6.out.size))).c 1 _ rfl
    have b2 := (X0.out.later (D6.out.trans (D9.out.mono D6.out.size))).c 2 _ rfl
    have t0 := (K6.out.later D9.out).c 0 _ rfl
    have t1 := (K6.out.later D9.out).c 1 _ rfl
    have y0 := (K0.out.later (D6.out.trans (D9.out.mono D6.out.size))).lt
    have y1 := (X0.out.later (D6.out.trans (D9.out.mono D6.out.size))).lt
    have y2 := (K6.out.later D9.out).lt
    go_wp2_with fail
    refine at_world (fun W => Below W6.heap.size W6 W ∧ Cells W w9.heap.size [.slice A9 s.hs.length d9, .slice A10 rws.length d10] ∧ Sl intR W (.slice A7 (P ++ [l]).length d7) (P ++ [l]) ∧ Sl intR W (.slice A9 s.hs.length d9) s.hs)
      ⟨bal D9.out, by simpa using Cells.new w9 [.slice A9 s.hs.length d9, .slice A10 rws.length d10] 25, Q9.out.up (ba _ _), I9.out.up (ba _ _)⟩ fun Wa ⟨hba, ka, qa, ia⟩ => ?_
    have Da := Lib.hid hba
    have DA := Lib.hid (D6.out.trans (hba.mono D6.out.size))
    have HWa := Lib.hid (HB2.out.trans (DA.out.mono HB2.out.size))
    have hlen : (P ++ [l]).length = P.length + 1 := by simp
    obtain ⟨bq, oq, rfl, hbq, eq0, _⟩ := qa.atI (k := P.length) (by simp)
    have hql : (P ++ [l])[P.length]'(by simp) = l := by simp
    rw [hql] at eq0
    have C18 := Lib.hid (fun W (hb : Below Wa.heap.size Wa W) => (sameInts_any (.slice A9 s.hs.length d9) (.slice A1 s.hs.length d1) s.hs s.hs W (ia.up hb) (HS1.out.up (DA.out.trans (hb.mono DA.out.size)))).mono (R' := fun e w' => e = .returned (.bool true) ∧ Below W.heap.size W w') fun e w' h => ⟨by simpa using h.1, by obtain ⟨n, hn⟩ := h.2; rw [hn]; exact bdN (Below.refl _ _) n⟩)
    have f0 := gro_cell ((K0.out.later DA.out).c 0 _ rfl)
    have f1 := gro_cell ((K0.out.later DA.out).c 1 _ rfl)
    have f2 := gro_cell ((X0.out.later DA.out).c 2 _ rfl)
    have f3 := gro_cell (ka.c 0 _ rfl)
    have f4 := gro_cell (ka.c 1 _ rfl)
    have f5 := gro_cell eq0
    have r8 : IntKind.i64.wrap ((P.length : Int) + 1) = (P.length : Int) + 1 := IntWalk.i64_in _ (by omega)
    have m2 : (0 : Int) ≤ (P.length : Int) := by omega
    have m3 : (P.length : Int) < (P.length : Int) + 1 := by omega
    clear qa ia hql eq0 hba ka hlen c0 c1 b1 b2 t0 t1 y0 y1 y2
    refine wp_region_gro (by kernel_rfl) (by kernel_rfl) ?_
    repeat (go_big_quiet_step (first | (go_at_call 19; exact Calls.gro_of (C18.out _ (gro_below _ _))) | fail))
    refine wpQuiet_nil ?_
    rintro _ ⟨p, rfl⟩
    have hq := gro_below Wa p
    have Db := Lib.hid (DA.out.trans (hq.mono DA.out.size))
    have Kb := Lib.hid (K6.out.later (Da.out.trans (hq.mono Da.out.size)))
    have Ib := Lib.hid (I6.out.1.up (Da.out.trans (hq.mono Da.out.size)))
    have HWb := Lib.hid (HB2.out.trans (Db.out.mono HB2.out.size))
    clear hq f0 f1 f2 f3 f4 f5 r8 m2 m3
    generalize gro Wa p = wb at Db Kb Ib HWb ⊢
    go_wp2_with fail
    go_loopw [17] (fun i wr => ∃ k : Nat, k ≤ s.hs.length ∧ i = .int .i64 k ∧ Hid (Below wb.heap.size wb wr)) (fun i _ => s.hs.length - (intOf i).toNat)
    case atStart => exact ⟨0, by omega, rfl, Below.refl _ _⟩
    case round =>
      obtain ⟨k, hk, rfl, hb⟩ := hrel
      have Dr := Lib.hid (Db.out.trans (hb.out.mono Db.out.size))
      have c0 := (K0.out.later Dr.out).c 0 _ rfl
      have c1 := (K0.out.later Dr.out).c 1 _ rfl
      have b2 := (X0.out.later Dr.out).c 2 _ rfl
      have t0 := (Kb.out.later hb.out).c 0 _ rfl
      have t1 := (Kb.out.later hb.out).c 1 _ rfl
      have y0 := (K0.out.later Dr.out).lt
      have y1 := (X0.out.later Dr.out).lt
      have y2 := (Kb.out.later hb.out).lt
      by_cases hlt : k < s.hs.length
      · have hlt2 : k < T.hs.length := by rw [hTl.out]; exact hlt
        have m0 : (0 : Int) ≤ (k : Int) := by omega
        have m1 : (k : Int) < (s.hs.length : Int) := by omega
        have m2 : (k : Int) < (T.hs.length : Int) := by omega
        obtain ⟨b4, o4, rfl, hb4, e4, _⟩ := (HS1.out.up Dr.out).atI hlt
        obtain ⟨b5, o5, rfl, hb5, e5, _⟩ := (Ib.out.up hb.out).atI hlt2
        by_cases hkl : (k : Int) = l
        · have r9 : ((k : Int) != l) = false := by simpa using hkl
          clear hkl
          go_wp2_with fail
          go_quiet (fail)
          go_wp2_with fail
          go_roundw
          case rel => exact ⟨k + 1, by omega, by go_num, bdN hb.out _⟩
          case measure => simp [intOf]; omega
        · have r9 : ((k : Int) != l) = true := by simpa using hkl
          have heq : T.hs[k] = s.hs[k] := by
            have h1 : T.hs[k]? = s.hs[k]? := by rw [HK1.out, List.getElem?_set_ne (by omega)]
            rw [List.getElem?_eq_getElem hlt2, List.getElem?_eq_getElem hlt] at h1
            exact Option.some.inj h1
          rw [heq] at e5
          clear hkl heq
          go_wp2_with fail
          go_quiet (fail)
          go_wp2_with fail
          go_roundw
          case rel => exact ⟨k + 1, by omega, by go_num, bdN hb.out _⟩
          case measure => simp [intOf]; omega
      · go_wp2_with (go_at_call 9; refine (awake_any _).mono ?_; rintro e wz ⟨rfl, hbz⟩)
        go_ret
        exact ⟨rfl, (HWb.out.trans (hb.out.mono HWb.out.size)).trans (hbz.mono (HWb.out.trans (hb.out.mono HWb.out.size)).size)⟩
  · have hlt : P.getD (P.length - 1) 0 < l := hord.resolve_left hne
    obtain ⟨m, hm⟩ : ∃ m, P.length = m + 1 := ⟨P.length - 1, by have := List.length_pos_iff.2 hne; omega⟩
    have hml : m < P.length := by omega
    have hlt' : P[m] < l := by rwa [hm, Nat.add_sub_cancel, List.getD_eq_getElem?_getD, List.getElem?_eq_getElem hml] at hlt
    obtain ⟨b, off, rfl, hbl, e0, _⟩ := HP5.out.atI hml
    have r5 : decide (P[m] < l) = true := by simpa using hlt'
    have r6 : ((P.length : Int) == 0) = false := by simpa using hne
    have r7 : IntKind.i64.wrap ((P.length : Int) - 1) = (m : Int) := by rw [hm]; push_cast; rw [Int.add_sub_cancel]; exact IntWalk.i64_in _ (by omega)
    have m0 : (0 : Int) ≤ (m : Int) := by omega
    have m1 : (m : Int) < (P.length : Int) := by omega
    clear hlt hlt' hne hm hord
    generalize P[m] = pm at e0 r5
    go_wp2_with fail
    go_quiet (fail)
    clear r5 r6 r7 m0 m1 e0
    refine at_world (fun W => Below W2.heap.size W2 W ∧ Cells W w5.heap.size [.slice A5 T.hs.length d5, .slice A6 T.ws.length d6] ∧ (Sl intR W (.slice A5 T.hs.length d5) T.hs ∧ Sl wtR W (.slice A6 T.ws.length d6) T.ws) ∧ Sl intR W (.slice (some ⟨b, off, none⟩) P.length d3) P)
      ⟨bdN (bal D5.out) _, (Cells.new _ _ _).drewN _, ⟨(I5.out.1.up (ba _ _)).up (bdN (Below.refl _ _) _), (I5.out.2.up (ba _ _)).up (bdN (Below.refl _ _) _)⟩, (HP5.out.up (ba _ _)).up (bdN (Below.refl _ _) _)⟩ fun W6 ⟨hb6, k6, i6, p6⟩ => ?_
    have D6 := Lib.hid hb6
    have K6 := Lib.hid k6
    have I6 := Lib.hid i6
    have P6 := Lib.hid p6
    clear c0 c1 b1 b2 y0 y1 hb6 k6 i6 p6
    have c0 := (K0.out.later D6.out).c 0 _ rfl
    have c1 := (K0.out.later D6.out).c 1 _ rfl
    have b1 := (X0.out.later D6.out).c 1 _ rfl
    have b2 := (X0.out.later D6.out).c 2 _ rfl
    have y0 := (K0.out.later D6.out).lt
    have y1 := (X0.out.later D6.out).lt
    have t0 := K6.out.c 0 _ rfl
    have t1 := K6.out.c 1 _ rfl
    have y2 := K6.out.lt
    go_wp2_with fail
    refine (held_any _ _ T t W6 I6.out.1 I6.out.2).mono fun e w7 h => ?_
    obtain ⟨A7, d7, rfl, q7, hb7⟩ := ints_form hT4.out h
    clear h
    have Q7 := Lib.hid q7
    have D7 := Lib.hid hb7
    clear q7 hb7 c0 c1 b1 b2 y0 y1 t0 t1 y2
    have c0 := (K0.out.later (D6.out.trans (D7.out.mono D6.out.size))).c 0 _ rfl
    have c1 := (K0.out.later (D6.out.trans (D7.out.mono D6.out.size))).c 1 _ rfl
    have b1 := (X0.out.later (D6.out.trans (D7.out.mono D6.out.size))).c 1 _ rfl
    have b2 := (X0.out.later (D6.out.trans (D7.out.mono D6.out.size))).c 2 _ rfl
    have t0 := (K6.out.later D7.out).c 0 _ rfl
    have t1 := (K6.out.later D7.out).c 1 _ rfl
    have y0 := (K0.out.later (D6.out.trans (D7.out.mono D6.out.size))).lt
    have y1 := (X0.out.later (D6.out.trans (D7.out.mono D6.out.size))).lt
    have y2 := (K6.out.later D7.out).lt
    go_wp2_with fail
    refine (free_any _ _ T l w7 (I6.out.1.up D7.out) (I6.out.2.up D7.out)).mono fun e w8 h => ?_
    rw [hT5.out] at h
    obtain ⟨rfl, hb8⟩ := h
    have Q8 := Lib.hid (Q7.out.up hb8)
    have D8 := Lib.hid (D7.out.trans (hb8.mono D7.out.size))
    clear hb8 Q7 D7 c0 c1 b1 b2 t0 t1 y0 y1 y2
    have c0 := (K0.out.later (D6.out.trans (D8.out.mono D6.out.size))).c 0 _ rfl
    have c1 := (K0.out.later (D6.out.trans (D8.out.mono D6.out.size))).c 1 _ rfl
    have b1 := (X0.out.later (D6.out.trans (D8.out.mono D6.out.size))).c 1 _ rfl
    have b2 := (X0.out.later (D6.out.trans (D8.out.mono D6.out.size))).c 2 _ rfl
    have t0 := (K6.out.later D8.out).c 0 _ rfl
    have t1 := (K6.out.later D8.out).c 1 _ rfl
    have y0 := (K0.out.later (D6.out.trans (D8.out.mono D6.out.size))).lt
    have y1 := (X0.out.later (D6.out.trans (D8.out.mono D6.out.size))).lt
    have y2 := (K6.out.later D8.out).lt
    go_wp2_with fail
    cases hT6 : giveS T t l with | mk R GE
    rw [hT6] at hg1 hg2
    obtain ⟨rhs, rws⟩ := R
    simp only at hg1 hg2
    subst hg1 hg2
    have hT7 := Lib.hid hT6
    clear hT6
    refine (give_any _ _ T t l w8 (I6.out.1.up D8.out) (I6.out.2.up D8.out)).mono fun e w9 h => ?_
    obtain ⟨A9, d9, A10, d10, rfl, i9, _, hb9⟩ := st_form hT7.out h
    clear h
    have Q9 := Lib.hid (Q8.out.up hb9)
    have D9 := Lib.hid (D8.out.trans (hb9.mono D8.out.size))
    have I9 := Lib.hid i9
    clear hb9 Q8 D8 i9 c0 c1 b1 b2 t0 t1 y0 y1 y2
    have c0 := (K0.out.later (D6.out.trans (D9.out.mono D6.out.size))).c 0 _ rfl
    have c1 := (K0.out.later (D6.out.trans (D9.out.mono D6.out.size))).c 1 _ rfl
    have b1 := (X0.out.later (D6.out.trans (D9.out.mono D6.out.size))).c 1 _ rfl
    have b2 := (X0.out.later (D6.out.trans (D9.out.mono D6.out.size))).c 2 _ rfl
    have t0 := (K6.out.later D9.out).c 0 _ rfl
    have t1 := (K6.out.later D9.out).c 1 _ rfl
    have y0 := (K0.out.later (D6.out.trans (D9.out.mono D6.out.size))).lt
    have y1 := (X0.out.later (D6.out.trans (D9.out.mono D6.out.size))).lt
    have y2 := (K6.out.later D9.out).lt
    go_wp2_with fail
    refine at_world (fun W => Below W6.heap.size W6 W ∧ Cells W w9.heap.size [.slice A9 s.hs.length d9, .slice A10 rws.length d10] ∧ Sl intR W (.slice A7 (P ++ [l]).length d7) (P ++ [l]) ∧ Sl intR W (.slice A9 s.hs.length d9) s.hs)
      ⟨bal D9.out, by simpa using Cells.new w9 [.slice A9 s.hs.length d9, .slice A10 rws.length d10] 25, Q9.out.up (ba _ _), I9.out.up (ba _ _)⟩ fun Wa ⟨hba, ka, qa, ia⟩ => ?_
    have Da := Lib.hid hba
    have DA := Lib.hid (D6.out.trans (hba.mono D6.out.size))
    have HWa := Lib.hid (HB2.out.trans (DA.out.mono HB2.out.size))
    have hlen : (P ++ [l]).length = P.length + 1 := by simp
    obtain ⟨bq, oq, rfl, hbq, eq0, _⟩ := qa.atI (k := P.length) (by simp)
    have hql : (P ++ [l])[P.length]'(by simp) = l := by simp
    rw [hql] at eq0
    have C18 := Lib.hid (fun W (hb : Below Wa.heap.size Wa W) => (sameInts_any (.slice A9 s.hs.length d9) (.slice A1 s.hs.length d1) s.hs s.hs W (ia.up hb) (HS1.out.up (DA.out.trans (hb.mono DA.out.size)))).mono (R' := fun e w' => e = .returned (.bool true) ∧ Below W.heap.size W w') fun e w' h => ⟨by simpa using h.1, by obtain ⟨n, hn⟩ := h.2; rw [hn]; exact bdN (Below.refl _ _) n⟩)
    have f0 := gro_cell ((K0.out.later DA.out).c 0 _ rfl)
    have f1 := gro_cell ((K0.out.later DA.out).c 1 _ rfl)
    have f2 := gro_cell ((X0.out.later DA.out).c 2 _ rfl)
    have f3 := gro_cell (ka.c 0 _ rfl)
    have f4 := gro_cell (ka.c 1 _ rfl)
    have f5 := gro_cell eq0
    have r8 : IntKind.i64.wrap ((P.length : Int) + 1) = (P.length : Int) + 1 := IntWalk.i64_in _ (by omega)
    have m2 : (0 : Int) ≤ (P.length : Int) := by omega
    have m3 : (P.length : Int) < (P.length : Int) + 1 := by omega
    clear qa ia hql eq0 hba ka hlen c0 c1 b1 b2 t0 t1 y0 y1 y2
    refine wp_region_gro (by kernel_rfl) (by kernel_rfl) ?_
    repeat (go_big_quiet_step (first | (go_at_call 19; exact Calls.gro_of (C18.out _ (gro_below _ _))) | fail))
    refine wpQuiet_nil ?_
    rintro _ ⟨p, rfl⟩
    have hq := gro_below Wa p
    have Db := Lib.hid (DA.out.trans (hq.mono DA.out.size))
    have Kb := Lib.hid (K6.out.later (Da.out.trans (hq.mono Da.out.size)))
    have Ib := Lib.hid (I6.out.1.up (Da.out.trans (hq.mono Da.out.size)))
    have HWb := Lib.hid (HB2.out.trans (Db.out.mono HB2.out.size))
    clear hq f0 f1 f2 f3 f4 f5 r8 m2 m3
    generalize gro Wa p = wb at Db Kb Ib HWb ⊢
    go_wp2_with fail
    go_loopw [17] (fun i wr => ∃ k : Nat, k ≤ s.hs.length ∧ i = .int .i64 k ∧ Hid (Below wb.heap.size wb wr)) (fun i _ => s.hs.length - (intOf i).toNat)
    case atStart => exact ⟨0, by omega, rfl, Below.refl _ _⟩
    case round =>
      obtain ⟨k, hk, rfl, hb⟩ := hrel
      have Dr := Lib.hid (Db.out.trans (hb.out.mono Db.out.size))
      have c0 := (K0.out.later Dr.out).c 0 _ rfl
      have c1 := (K0.out.later Dr.out).c 1 _ rfl
      have b2 := (X0.out.later Dr.out).c 2 _ rfl
      have t0 := (Kb.out.later hb.out).c 0 _ rfl
      have t1 := (Kb.out.later hb.out).c 1 _ rfl
      have y0 := (K0.out.later Dr.out).lt
      have y1 := (X0.out.later Dr.out).lt
      have y2 := (Kb.out.later hb.out).lt
      by_cases hlt : k < s.hs.length
      · have hlt2 : k < T.hs.length := by rw [hTl.out]; exact hlt
        have m0 : (0 : Int) ≤ (k : Int) := by omega
        have m1 : (k : Int) < (s.hs.length : Int) := by omega
        have m2 : (k : Int) < (T.hs.length : Int) := by omega
        obtain ⟨b4, o4, rfl, hb4, e4, _⟩ := (HS1.out.up Dr.out).atI hlt
        obtain ⟨b5, o5, rfl, hb5, e5, _⟩ := (Ib.out.up hb.out).atI hlt2
        by_cases hkl : (k : Int) = l
        · have r9 : ((k : Int) != l) = false := by simpa using hkl
          clear hkl
          go_wp2_with fail
          go_quiet (fail)
          go_wp2_with fail
          go_roundw
          case rel => exact ⟨k + 1, by omega, by go_num, bdN hb.out _⟩
          case measure => simp [intOf]; omega
        · have r9 : ((k : Int) != l) = true := by simpa using hkl
          have heq : T.hs[k] = s.hs[k] := by
            have h1 : T.hs[k]? = s.hs[k]? := by rw [HK1.out, List.getElem?_set_ne (by omega)]
            rw [List.getElem?_eq_getElem hlt2, List.getElem?_eq_getElem hlt] at h1
            exact Option.some.inj h1
          rw [heq] at e5
          clear hkl heq
          go_wp2_with fail
          go_quiet (fail)
          go_wp2_with fail
          go_roundw
          case rel => exact ⟨k + 1, by omega, by go_num, bdN hb.out _⟩
          case measure => simp [intOf]; omega
      · go_wp2_with (go_at_call 9; refine (awake_any _).mono ?_; rintro e wz ⟨rfl, hbz⟩)
        go_ret
        exact ⟨rfl, (HWb.out.trans (hb.out.mono HWb.out.size)).trans (hbz.mono (HWb.out.trans (hb.out.mono HWb.out.size)).size)⟩
end Go.Proofs.Ytgmjfmajdnoogaa
