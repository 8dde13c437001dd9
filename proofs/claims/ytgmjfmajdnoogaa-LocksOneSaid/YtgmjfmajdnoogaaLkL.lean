/-
  Walk of groundlinglaw14.awake: it returns true. Conditions: none.
-/
import Derived.Test.YtgmjfmajdnoogaaLkK
namespace Go.Proofs.Ytgmjfmajdnoogaa
open Go.RowKit

theorem IsSt.form {w : World} {v : Value} {s : St} (h : IsSt w v s) : ∃ A c A' c', v = .agg #[.slice A s.hs.length c, .slice A' s.ws.length c'] ∧ Sl intR w (.slice A s.hs.length c) s.hs ∧ Sl wtR w (.slice A' s.ws.length c') s.ws := by
  obtain ⟨v1, v2, rfl, h1, h2⟩ := h
  obtain ⟨A, c, rfl, _, _, h1⟩ := h1.open
  obtain ⟨A', c', rfl, _, _, h2⟩ := h2.open
  exact ⟨A, c, A', c', rfl, h1, h2⟩

/-- Take, what it returns written out. -/
theorem take_form {v1 v2 : Value} {s s' : St} {t l e0 : Int} {w : World} (h1 : Sl intR w v1 s.hs) (h2 : Sl wtR w v2 s.ws) (bt : Bd t) (hr : takeS s t l = (s', e0)) :
    Calls Try.prog 14 #[.agg #[v1, v2], .int .i64 t, .int .i64 l] w fun e w' => ∃ A c A' c', e = .returned (.tuple #[.agg #[.slice A s'.hs.length c, .slice A' s'.ws.length c'], .int .i64 e0]) ∧ Sl intR w' (.slice A s'.hs.length c) s'.hs ∧ Sl wtR w' (.slice A' s'.ws.length c') s'.ws ∧ Below w.heap.size w w' :=
  (take_any v1 v2 s t l w h1 h2 bt).mono fun e w' ⟨v, he, hi, hb⟩ => by
    rw [hr] at he hi
    obtain ⟨A, c, A', c', rfl, i1, i2⟩ := hi.form
    exact ⟨A, c, A', c', he, i1, i2, hb⟩
/-- A list of numbers and an error, written out. -/
theorem ints_form {e : Ending} {w w' : World} {x : List Int × Int} {l : List Int} {e0 : Int} (hr : x = (l, e0)) (h : ∃ v, e = .returned (.tuple #[v, .int .i64 x.2]) ∧ Sl intR w' v x.1 ∧ Below w.heap.size w w') :
    ∃ A c, e = .returned (.tuple #[.slice A l.length c, .int .i64 e0]) ∧ Sl intR w' (.slice A l.length c) l ∧ Below w.heap.size w w' := by
  subst hr
  obtain ⟨v, he, hs, hb⟩ := h
  obtain ⟨A, c, rfl, _, _, hs⟩ := hs.open
  exact ⟨A, c, he, hs, hb⟩

def exT : St := ⟨[1, 2, 1], [⟨3, 0⟩]⟩

set_option maxHeartbeats 2000000 in
theorem awake_any (w : World) : Calls Try.prog 9 #[] w fun e w' => e = .returned (.bool true) ∧ Below w.heap.size w w' := by
  have r1 := Lib.hid (show takeS exS 1 1 = (exS, 20) by rfl)
  have r2 := Lib.hid (show takeS exS 1 2 = (exT, 0) by rfl)
  have r3 := Lib.hid (show takeS exS 2 0 = (exS, 19) by rfl)
  have r4 := Lib.hid (show blockedS exS = ([1, 3], 0) by rfl)
  have r5 := Lib.hid (show cycS exS = ([], 0) by rfl)
  have r6 := Lib.hid (show heldS exT 1 = ([0, 2], 0) by rfl)
  go_enter Try.func9, Try.ntmps9
  go_wp2_with fail
  refine (example_any _).mono ?_
  rintro e w1 ⟨v1, v2, rfl, hs1, hs2, hb1⟩
  obtain ⟨A, c, hv1, _, _, hs1⟩ := hs1.open
  obtain ⟨A', c', hv2, _, _, hs2⟩ := hs2.open
  rw [hv1, hv2]
  clear hv1 hv2
  have HB1 := Lib.hid hb1
  clear hb1
  go_wp2_with fail
  refine (take_form (hs1.up (ba _ _)) (hs2.up (ba _ _)) (by simp [Bd]) r1.out).mono ?_
  rintro e w2 ⟨A2, c2, A2', c2', rfl, _, _, hb2⟩
  have k0 := box_cell hb2 0 _ rfl
  have k1 := box_cell hb2 1 _ rfl
  have z1 := box_lt hb2
  have HB2 := Lib.hid (HB1.out.trans (((ba w1 _).trans (hb2.mono (by simp))).mono HB1.out.size))
  replace hs1 := (hs1.up (ba _ _)).up hb2
  replace hs2 := (hs2.up (ba _ _)).up hb2
  clear hb2
  go_wp2_with fail
  refine (take_form (hs1.up (ba _ _)) (hs2.up (ba _ _)) (by simp [Bd]) r2.out).mono ?_
  rintro e w3 ⟨A3, c3, A3', c3', rfl, ht1, ht2, hb3⟩
  have hb3' := (ba w2 _).trans (hb3.mono (by simp))
  replace k0 := cell_later hb3' k0
  replace k1 := cell_later hb3' k1
  have z2 : w1.heap.size < w3.heap.size := Nat.lt_of_lt_of_le z1 hb3'.size
  have HB3 := Lib.hid (HB2.out.trans (hb3'.mono HB2.out.size))
  replace hs1 := hs1.up hb3'
  replace hs2 := hs2.up hb3'
  clear hb3 hb3'
  go_wp2_with fail
  refine (take_form (hs1.up (ba _ _)) (hs2.up (ba _ _)) (by simp [Bd]) r3.out).mono ?_
  rintro e w4 ⟨A4, c4, A4', c4', rfl, _, _, hb4⟩
  have hb4' := (ba w3 _).trans (hb4.mono (by simp))
  have t0 := box_cell hb4 0 _ rfl
  have t1 := box_cell hb4 1 _ rfl
  have z3 := box_lt hb4
  replace k0 := cell_later hb4' k0
  replace k1 := cell_later hb4' k1
  have HB4 := Lib.hid (HB3.out.trans (hb4'.mono HB3.out.size))
  replace hs1 := hs1.up hb4'
  replace hs2 := hs2.up hb4'
  replace ht1 := ht1.up hb4'
  replace ht2 := ht2.up hb4'
  have z4 : w1.heap.size < w4.heap.size := Nat.lt_of_lt_of_le z2 hb4'.size
  clear hb4 hb4'
  go_wp2_with fail
  refine (blocked_any _ _ exS _ (hs1.up (ba _ _)) (hs2.up (ba _ _))).mono fun e w' h => ?_
  obtain ⟨A5, c5, rfl, hl1, hb5⟩ := ints_form r4.out h
  clear h
  have hb5' := (ba w4 _).trans (hb5.mono (by simp))
  replace k0 := cell_later hb5' k0
  replace k1 := cell_later hb5' k1
  replace t0 := cell_later hb5' t0
  replace t1 := cell_later hb5' t1
  have HB5 := Lib.hid (HB4.out.trans (hb5'.mono HB4.out.size))
  replace hs1 := hs1.up hb5'
  replace hs2 := hs2.up hb5'
  replace ht1 := ht1.up hb5'
  replace ht2 := ht2.up hb5'
  clear hb5 hb5'
  go_wp2_with fail
  refine (cycle_any _ _ exS _ hs1 hs2).mono fun e w6 h => ?_
  obtain ⟨A6, c6, rfl, hl2, hb6⟩ := ints_form r5.out h
  clear h
  replace t0 := cell_later hb6 t0
  replace t1 := cell_later hb6 t1
  have HB6 := Lib.hid (HB5.out.trans (hb6.mono HB5.out.size))
  replace hl1 := hl1.up hb6
  replace ht1 := ht1.up hb6
  replace ht2 := ht2.up hb6
  clear hb6
  go_wp2_with fail
  refine (held_any _ _ exT 1 _ ht1 ht2).mono fun e w7 h => ?_
  obtain ⟨A7, c7, rfl, hl3, hb7⟩ := ints_form r6.out h
  clear h
  have HB7 := Lib.hid (HB6.out.trans (hb7.mono HB6.out.size))
  replace hl1 := hl1.up hb7
  clear hb7
  have HL1 := Lib.hid hl1
  have HL3 := Lib.hid hl3
  clear hl1 hl2 hl3 ht1 ht2 hs1 hs2
  go_wp2_with fail
  refine (sameInts_any _ _ [1, 3] [1, 3] _ (HL1.out.up (ba _ _)) (Own.sl (Own.lit (e := 3) (n := 2) (B := 0) (cells := [.int .i64 1, .int .i64 3]) rfl (by omega) (many_ints (xs := [1, 3]) (by simp [Bd])) rfl (by omega)))).mono ?_
  rintro e w8 ⟨rfl, n, rfl⟩
  go_wp2_with fail
  refine (sameInts_any _ _ [0, 2] [0, 2] _ (HL3.out.up ((bdN (ba _ _) n).alloc (by simp) _)) (Own.sl (Own.lit (e := 3) (n := 2) (B := 0) (cells := [.int .i64 0, .int .i64 2]) (by simp) (by omega) (many_ints (xs := [0, 2]) (by simp [Bd])) rfl (by omega)))).mono ?_
  rintro e w9 ⟨rfl, n', rfl⟩
  go_wp2_with fail
  go_ret
  exact ⟨rfl, HB7.out.trans ((bdN ((bdN (ba w7 _) n).alloc (by simp) _) n').mono HB7.out.size)⟩
end Go.Proofs.Ytgmjfmajdnoogaa
