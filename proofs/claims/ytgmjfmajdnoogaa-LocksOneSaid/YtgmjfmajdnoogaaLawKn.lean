/-
  The walk of the law LocksKnown: it returns true. Conditions: none.
-/
import Derived.Test.YtgmjfmajdnoogaaLkL
import Derived.Test.YtgmjfmajdnoogaaLkM
import Derived.Test.YtgmjfmajdnoogaaLibS
namespace Go.Proofs.Ytgmjfmajdnoogaa
open Go.RowKit

theorem sl_no_wt {w : World} {A : Option Addr} {n c : Nat} : ∀ cs x, wtR.is w cs x → Value.slice A n c ∉ cs := by
  rintro cs x ⟨rfl, _⟩ h
  simp at h

def exA : St := ⟨[1, 0, 0], [⟨1, 1⟩, ⟨3, 0⟩]⟩
def exB : St := ⟨[1, 1, 0], [⟨3, 0⟩]⟩
def exC : St := ⟨[1, 2, 0], [⟨1, 1⟩, ⟨2, 0⟩, ⟨3, 0⟩]⟩
theorem exC_many {w : World} : wtR.many w [.int .i64 1, .int .i64 1, .int .i64 2, .int .i64 0, .int .i64 3, .int .i64 0] exC.ws :=
  many_cons (cs := [.int .i64 1, .int .i64 1]) ⟨rfl, by simp [Bd], by simp [Bd]⟩ (many_cons (cs := [.int .i64 2, .int .i64 0]) ⟨rfl, by simp [Bd], by simp [Bd]⟩ (many_cons (cs := [.int .i64 3, .int .i64 0]) (rest := []) ⟨rfl, by simp [Bd], by simp [Bd]⟩ rfl))

/-- A state and an error, written out. -/
theorem st_form {e : Ending} {w w' : World} {x : St × Int} {s' : St} {e0 : Int} (hr : x = (s', e0)) (h : ∃ v, e = .returned (.tuple #[v, .int .i64 x.2]) ∧ IsSt w' v x.1 ∧ Below w.heap.size w w') :
    ∃ A c A' c', e = .returned (.tuple #[.agg #[.slice A s'.hs.length c, .slice A' s'.ws.length c'], .int .i64 e0]) ∧ Sl intR w' (.slice A s'.hs.length c) s'.hs ∧ Sl wtR w' (.slice A' s'.ws.length c') s'.ws ∧ Below w.heap.size w w' := by
  subst hr
  obtain ⟨v, he, hi, hb⟩ := h
  obtain ⟨A, c, A', c', rfl, i1, i2⟩ := hi.form
  exact ⟨A, c, A', c', he, i1, i2, hb⟩


set_option maxHeartbeats 2000000 in
theorem lawKnown_any (w : World) : Calls Try.prog 4 #[] w fun e w' => e = .returned (.bool true) ∧ Below w.heap.size w w' := by
  have r1 := Lib.hid (show takeS exS 1 0 = (exS, 8) by rfl)
  have r2 := Lib.hid (show giveS exS 2 1 = (exA, 0) by rfl)
  have r3 := Lib.hid (show blockedS exA = ([3], 0) by rfl)
  have r4 := Lib.hid (show takeS exA 1 1 = (exB, 0) by rfl)
  have r5 := Lib.hid (show heldS exB 1 = ([0, 1], 0) by rfl)
  have r6 := Lib.hid (show giveS exS 1 2 = (exS, 14) by rfl)
  have r7 := Lib.hid (show newS 65 = (⟨[], []⟩, 7) by rfl)
  have r8 := Lib.hid (show cycS exC = ([1, 2], 0) by rfl)
  go_enter Try.func4, Try.ntmps4
  go_wp2_with fail
  refine (example_any _).mono ?_
  rintro e w1 ⟨v1, v2, rfl, hs1, hs2, hb1⟩
  obtain ⟨A, c, hv1, _, _, hs1⟩ := hs1.open
  obtain ⟨A', c', hv2, _, _, hs2⟩ := hs2.open
  rw [hv1, hv2]
  clear hv1 hv2
  have HB1 := Lib.hid hb1
  have HS1 := Lib.hid hs1
  have HS2 := Lib.hid hs2
  clear hb1 hs1 hs2
  go_wp2_with fail
  refine at_call (fun W => Below w1.heap.size w1 W ∧ W.heap.size = w1.heap.size + 1 ∧ Cells W w1.heap.size [.slice A exS.hs.length c, .slice A' exS.ws.length c']) ⟨ba _ _, by simp, Cells.new _ _ _⟩ fun W1 ⟨hB, hz, hk⟩ => ?_
  have HB := Lib.hid hB
  have HZ := Lib.hid hz
  have HK := Lib.hid hk
  clear hB hz hk
  refine (take_any _ _ exS 1 0 W1 (HS1.out.up HB.out) (HS2.out.up HB.out) (by simp [Bd])).mono fun e w2 h => ?_
  obtain ⟨A2, c2, A2', c2', rfl, _, _, hb2⟩ := st_form r1.out h
  clear h
  have k0 := (HK.out.later hb2).c 0 _ rfl
  have k1 := (HK.out.later hb2).c 1 _ rfl
  have z1 := (HK.out.later hb2).lt
  have hc2 := Lib.hid hb2
  clear hb2
  go_wp2_with fail
  refine at_call (fun W => Below W1.heap.size W1 W) (hc2.out.trans ((ba _ _).mono hc2.out.size)) fun W2 hb2 => ?_
  clear hc2 k0 k1 z1
  refine (give_any _ _ exS 2 1 W2 (HS1.out.up (HB.out.trans (hb2.mono HB.out.size))) (HS2.out.up (HB.out.trans (hb2.mono HB.out.size)))).mono fun e w3 h => ?_
  obtain ⟨A3, c3, A3', c3', rfl, ht1, ht2, hb3⟩ := st_form r2.out h
  clear h
  have hc3 := Lib.hid (hb2.trans (hb3.mono hb2.size))
  have HT1 := Lib.hid ht1
  have HT2 := Lib.hid ht2
  clear hb2 hb3 ht1 ht2
  go_wp2_with fail
  refine at_call (fun W => Below W1.heap.size W1 W ∧ Below w3.heap.size w3 W ∧ W.heap.size = w3.heap.size + 1 ∧ Cells W w3.heap.size [.slice A3 exA.hs.length c3, .slice A3' exA.ws.length c3']) ⟨hc3.out.trans ((ba _ _).mono hc3.out.size), ba _ _, by simp, Cells.new _ _ _⟩ fun W3 ⟨hb3, hg3, hz3, hk3⟩ => ?_
  have z3 : W1.heap.size ≤ w3.heap.size := hc3.out.size
  clear hc3
  have HK3 := Lib.hid hk3
  have HG3 := Lib.hid hg3
  have HZ3 := Lib.hid hz3
  have hc3 := Lib.hid hb3
  clear hk3 hg3 hz3 hb3
  refine (blocked_any _ _ exA W3 (HT1.out.up HG3.out) (HT2.out.up HG3.out)).mono fun e w4 h => ?_
  obtain ⟨A4, c4, rfl, hl, hb4⟩ := ints_form r3.out h
  clear h
  have HL := Lib.hid hl
  have t0 := (HK3.out.later hb4).c 0 _ rfl
  have t1 := (HK3.out.later hb4).c 1 _ rfl
  have z4 := (HK3.out.later hb4).lt
  have hc4 := Lib.hid hb4
  clear hl hb4
  go_wp2_with fail
  refine (take_any _ _ exA 1 1 w4 (HT1.out.up (HG3.out.trans (hc4.out.mono HG3.out.size))) (HT2.out.up (HG3.out.trans (hc4.out.mono HG3.out.size))) (by simp [Bd])).mono fun e w5 h => ?_
  obtain ⟨A5, c5, A5', c5', rfl, hu1, hu2, hb5⟩ := st_form r4.out h
  clear h
  have hk5 := (HK3.out.later hc4.out).later hb5
  have c0 := hk5.c 0 _ rfl
  have c1 := hk5.c 1 _ rfl
  have f0 := hk5.f 0
  have f1 := hk5.f 1
  have z5 := hk5.lt
  have HU1 := Lib.hid hu1
  have HU2 := Lib.hid hu2
  have HK5 := Lib.hid hk5
  have HB5 := Lib.hid hb5
  clear hu1 hu2 hk5 hb5 t0 t1 z4
  go_wp2_with fail
  obtain ⟨hk6, hg6⟩ := HK5.out.put2 (.slice A5 exB.hs.length c5) (.slice A5' exB.ws.length c5')
  have hb6 : Below W1.heap.size W1 w5 := hc3.out.trans ((hc4.out.trans (HB5.out.mono hc4.out.size)).mono hc3.out.size)
  have hb6' := hb6.grown hg6 hb6.size (fun k hk => by injection hk; omega)
  have hl6 := (HL.out.up HB5.out).kept_put2 (.slice A5 exB.hs.length c5) (.slice A5' exB.ws.length c5') c0 c1 (fun _ => sl_no_int) (fun _ => sl_no_int) intR_flat
  have hu6 := HU1.out.kept_put2 (.slice A5 exB.hs.length c5) (.slice A5' exB.ws.length c5') c0 c1 (fun _ => sl_no_int) (fun _ => sl_no_int) intR_flat
  have hu7 := HU2.out.kept_put2 (.slice A5 exB.hs.length c5) (.slice A5' exB.ws.length c5') c0 c1 (fun _ => sl_no_wt) (fun _ => sl_no_wt) wtR_flat
  refine at_call (fun W => Below W1.heap.size W1 W ∧ Sl intR W (.slice A4 [3].length c4) [3] ∧ Sl intR W (.slice A5 exB.hs.length c5) exB.hs ∧ Sl wtR W (.slice A5' exB.ws.length c5') exB.ws) ⟨hb6', hl6, hu6, hu7⟩ fun W6 ⟨hb6, hl6, hu6, hu7⟩ => ?_
  refine (held_any _ _ exB 1 _ hu6 hu7).mono fun e w7 h => ?_
  obtain ⟨A7, c7, rfl, hm, hb7⟩ := ints_form r5.out h
  clear h
  have HL7 := Lib.hid (hl6.up hb7)
  have HM := Lib.hid hm
  have hc7 := Lib.hid (hb6.trans (hb7.mono hb6.size))
  have k0 := (HK.out.later hc7.out).c 0 _ rfl
  have k1 := (HK.out.later hc7.out).c 1 _ rfl
  clear hk6 hg6 hb6 hb6' hl6 hu6 hu7 hm hb7 c0 c1 f0 f1 z5
  go_wp2_with fail
  refine (give_any _ _ exS 1 2 w7 (HS1.out.up (HB.out.trans (hc7.out.mono HB.out.size))) (HS2.out.up (HB.out.trans (hc7.out.mono HB.out.size)))).mono fun e w8 h => ?_
  obtain ⟨A8, c8, A8', c8', rfl, _, _, hb8⟩ := st_form r6.out h
  clear h
  have hc8 := Lib.hid (hc7.out.trans (hb8.mono hc7.out.size))
  have HL8 := Lib.hid (HL7.out.up hb8)
  have HM8 := Lib.hid (HM.out.up hb8)
  clear hb8 k0 k1
  go_wp2_with fail
  refine at_call (fun W => Below W1.heap.size W1 W ∧ Sl intR W (.slice A4 [3].length c4) [3] ∧ Sl intR W (.slice A7 [0, 1].length c7) [0, 1]) ⟨hc8.out.trans ((ba _ _).mono hc8.out.size), HL8.out.up (ba _ _), HM8.out.up (ba _ _)⟩ fun W8 ⟨hb8, hl8, hm8⟩ => ?_
  refine (new_any 65 W8).mono fun e w9 h => ?_
  obtain ⟨A9, c9, A9', c9', rfl, _, _, hb9⟩ := st_form r7.out h
  clear h
  have hc9 := Lib.hid (hb8.trans (hb9.mono hb8.size))
  have HL9 := Lib.hid (hl8.up hb9)
  have HM9 := Lib.hid (hm8.up hb9)
  clear hb8 hb9 hl8 hm8
  go_wp2_with fail
  refine at_call (fun W => Below W1.heap.size W1 W ∧ Sl intR W (.slice A4 1 c4) [3] ∧ Sl intR W (.slice A7 2 c7) [0, 1] ∧ Sl intR W (.slice (some ⟨w9.heap.size + 1, 0, none⟩) 1 1) [3])
    ⟨(hc9.out.trans ((ba _ _).mono hc9.out.size)).trans ((ba _ _).mono (by simp; exact Nat.le_succ_of_le hc9.out.size)), (HL9.out.up (ba _ _)).up (ba _ _), (HM9.out.up (ba _ _)).up (ba _ _), sl_one _ _ _ _ (by simp) (by simp [Bd])⟩ fun W9 ⟨hb9, hl9, hm9, hn9⟩ => ?_
  refine (sameInts_any _ _ [3] [3] W9 hl9 hn9).mono ?_
  rintro e w10 ⟨rfl, n, rfl⟩
  have hcA := Lib.hid hb9
  have HMA := Lib.hid hm9
  clear hl9 hm9 hn9 hb9
  go_wp2_with fail
  refine at_call (fun W => Below W1.heap.size W1 W ∧ Sl intR W (.slice A7 2 c7) [0, 1] ∧ Sl intR W (.slice (some ⟨W9.heap.size, 0, none⟩) 2 2) [0, 1])
    ⟨(bdN hcA.out n).trans ((ba _ _).mono hcA.out.size), (HMA.out.up (bdN (Below.refl _ _) n)).up (ba _ _), Own.sl (Own.lit (e := 3) (n := 2) (B := 0) (cells := [.int .i64 0, .int .i64 1]) rfl (by omega) (many_ints (xs := [0, 1]) (by simp [Bd])) rfl (by omega))⟩ fun WA ⟨hbA, hmA, hnA⟩ => ?_
  refine (sameInts_any _ _ [0, 1] [0, 1] WA hmA hnA).mono ?_
  rintro e w11 ⟨rfl, n', rfl⟩
  have hcB := Lib.hid (bdN hbA n')
  have k0 := ((HK.out.later hbA).drewN n').c 0 _ rfl
  have k1 := ((HK.out.later hbA).drewN n').c 1 _ rfl
  have f1 := ((HK.out.later hbA).drewN n').f 1
  have z1 := ((HK.out.later hbA).drewN n').lt
  clear hmA hnA hbA
  generalize WA.drewN n' = WB at hcB k0 k1 f1 z1 ⊢
  go_wp2_with fail
  have hbB : Below w1.heap.size w1 WB := HB.out.trans (hcB.out.mono HB.out.size)
  have hbC := hbB.grown (grownBy_set WB w1.heap.size 1 (.slice (some ⟨WB.heap.size, 0, none⟩) 3 3)) hbB.size (fun k hk => by injection hk; omega)
  refine at_call (fun W => Below w1.heap.size w1 W ∧ Sl wtR W (.slice (some ⟨WB.heap.size, 0, none⟩) 3 3) exC.ws)
    ⟨hbC.trans ((ba _ _).mono hbC.size), Own.sl (Own.lit (e := 33) (n := 3) (B := 0) (cells := [.int .i64 1, .int .i64 1, .int .i64 2, .int .i64 0, .int .i64 3, .int .i64 0]) (xs := exC.ws) (by simp) (by omega) exC_many rfl (by omega))⟩ fun WC ⟨hb, hw⟩ => ?_
  refine (cycle_any _ _ exC WC (HS1.out.up hb) hw).mono fun e w12 h => ?_
  obtain ⟨A12, c12, rfl, hl, hb12⟩ := ints_form r8.out h
  clear h
  have hcC := Lib.hid (hb.trans (hb12.mono hb.size))
  have HLC := Lib.hid hl
  clear hb hw hb12 hl k0 k1 f1 z1 hbC hbB
  go_wp2_with fail
  refine (sameInts_any _ _ [1, 2] [1, 2] _ (HLC.out.up (ba _ _)) (Own.sl (Own.lit (e := 3) (n := 2) (B := 0) (cells := [.int .i64 1, .int .i64 2]) rfl (by omega) (many_ints (xs := [1, 2]) (by simp [Bd])) rfl (by omega)))).mono ?_
  rintro e w13 ⟨rfl, n, rfl⟩
  go_wp2_with fail
  refine (awake_any _).mono ?_
  rintro e w14 ⟨rfl, hb14⟩
  have hcD := Lib.hid (hcC.out.trans (((bdN (ba w12 _) n).trans (hb14.mono (by simp))).mono hcC.out.size))
  clear hb14
  go_wp2_with fail
  go_ret
  exact ⟨rfl, HB1.out.trans (hcD.out.mono HB1.out.size)⟩
end Go.Proofs.Ytgmjfmajdnoogaa
