/-
  Walk of groundlinglaw14.led: the state that calls lead to is one that Check lets by, and its waits are in order. Conditions: as the theorem says.
-/
import Derived.Test.YtgmjfmajdnoogaaPlOrd
import Derived.Test.YtgmjfmajdnoogaaLkCl
import Derived.Test.YtgmjfmajdnoogaaLawKn
import Derived.Test.YtgmjfmajdnoogaaLibT
namespace Go.Proofs.Ytgmjfmajdnoogaa
open Go.RowKit

set_option maxHeartbeats 1000000 in
set_option maxRecDepth 20000 in
theorem led_any (n : Int) (v : Value) (xs : List Cl) (w : World) (hn0 : 0 ≤ n) (hn1 : n ≤ 255) (hs : Sl clR w v xs) :
    Calls Try.prog 21 #[.int .u8 n, v] w fun e w' => ∃ v s, e = .returned (.tuple #[v, .bool true]) ∧ IsSt w' v s ∧ Inv s ∧ Below w.heap.size w w' := by
  obtain ⟨A, c, rfl, hc, hm, hs⟩ := hs.open
  have hl : xs.length ≤ 9223372036854775807 := by omega
  have hinv := inv_new (n := n % 65) (by omega) (by omega)
  have HS := Lib.hid hs
  generalize hN : newS (n % 65) = N at hinv
  obtain ⟨s0, e0⟩ := N
  obtain ⟨rfl, hi0⟩ := hinv
  have HN := Lib.hid hN
  have HI := Lib.hid hi0
  clear hs hN hi0
  go_enter Try.func21, Try.ntmps21
  go_wp2_with fail
  refine at_call (fun W => Below w.heap.size w W ∧ Cells W w.heap.size [.slice none 0 0, .slice none 0 0]) ⟨ba _ _, Cells.new _ _ _⟩ fun W1 ⟨hb1, r0⟩ => ?_
  refine (new_any (n % 65) W1).mono fun e w2 h => ?_
  obtain ⟨A0, c0, A0', c0', rfl, i0, i0', hb2⟩ := st_form HN.out h
  clear h
  have HB2 := Lib.hid (hb1.trans (hb2.mono hb1.size))
  have R0 := Lib.hid (r0.later hb2)
  have I0 := Lib.hid (And.intro i0 i0')
  have z2 : w.heap.size < w2.heap.size := (r0.later hb2).lt
  clear hb1 hb2 r0 i0 i0'
  go_wp2_with fail
  refine at_world (fun W => Below w.heap.size w W ∧ Cells W w.heap.size [.slice none 0 0, .slice none 0 0] ∧ ∃ s A1 d1 A2 d2, Inv s ∧ Cells W w2.heap.size [.slice A1 s.hs.length d1, .slice A2 s.ws.length d2] ∧ Sl intR W (.slice A1 s.hs.length d1) s.hs ∧ Sl wtR W (.slice A2 s.ws.length d2) s.ws)
    ⟨bal HB2.out, R0.out.alloc _, s0, A0, c0, A0', c0', HI.out, Cells.new _ _ _, I0.out.1.up (ba _ _), I0.out.2.up (ba _ _)⟩ fun W3 hW3 => ?_
  have H3 := Lib.hid hW3
  clear hW3 R0 I0 HI HN HB2
  go_loopw [8] (fun i wr => ∃ k : Nat, k ≤ xs.length ∧ i = .int .i64 k ∧ Hid (Below w.heap.size w wr ∧ Cells wr w.heap.size [.slice none 0 0, .slice none 0 0] ∧ ∃ s A1 d1 A2 d2, Inv s ∧ Cells wr w2.heap.size [.slice A1 s.hs.length d1, .slice A2 s.ws.length d2] ∧ Sl intR wr (.slice A1 s.hs.length d1) s.hs ∧ Sl wtR wr (.slice A2 s.ws.length d2) s.ws)) (fun i _ => xs.length - (intOf i).toNat)
  case atStart => exact ⟨0, by omega, rfl, H3.out⟩
  case round =>
    obtain ⟨k, hk, rfl, hb⟩ := hrel
    obtain ⟨hb, r0, s, A1, d1, A2, d2, hi, k0, i1, i2⟩ := hb.out
    have u0 := k0.c 0 _ rfl
    have u1 := k0.c 1 _ rfl
    have g0 := k0.f 0
    have g1 := k0.f 1
    by_cases hlt : k < xs.length
    · obtain ⟨b, off, rfl, hbl, e0, e1, e2, hw, bt, _⟩ := (HS.out.up hb).atC hlt
      have hk0 : (0 : Int) ≤ (k : Int) := by omega
      have hk1 : (k : Int) < (xs.length : Int) := by omega
      have HB := Lib.hid hb
      have R0 := Lib.hid r0
      have K0 := Lib.hid k0
      have J := Lib.hid (And.intro i1 i2)
      have HI := Lib.hid hi
      have BT := Lib.hid bt
      generalize hx : xs[k] = x at e0 e1 e2 hw BT
      clear hb r0 k0 i1 i2 hi bt hx
      by_cases q0 : x.what % 4 = 0
      · have t0 : (x.what % 4 == 0) = true := by rw [q0]; rfl
        clear q0
        have C := Lib.hid (fun W (hb : Below wr.heap.size wr W) => wait_any _ _ s x.task x.lock W (J.out.1.up hb) (J.out.2.up hb) BT.out)
        go_wp2_with fail
        refine wp_region_still_seq 11 (by kernel_rfl) (by kernel_rfl) (fun _ _ _ _ _ h => h) ?_
        simp only [List.take_succ_cons, List.take_zero, List.drop_succ_cons, List.drop_zero, World.drew_eq]
        repeat still_step
        refine wpStill_nil ?_
        go_wp2_with fail
        refine (C.out _ (bdd (Below.refl _ _))).mono fun e w9 h => ?_
        obtain ⟨B1, m1, B2, m2, rfl, j1, j2, hb9⟩ := st_form (s' := (waitS s x.task x.lock).1) (e0 := (waitS s x.task x.lock).2) rfl h
        clear h
        have u0' := cell_later hb9 (show _ from u0)
        have u1' := cell_later hb9 (show _ from u1)
        have g0' := free_later hb9 (show _ from u0) g0
        have g1' := free_later hb9 (show _ from u1) g1
        have hbX : Below wr.heap.size wr w9 := (bdd (Below.refl _ _)).trans hb9
        go_wp2_with fail
        obtain ⟨k9, hg9⟩ := (K0.out.later hbX).put2 (.slice B1 (waitS s x.task x.lock).1.hs.length m1) (.slice B2 (waitS s x.task x.lock).1.ws.length m2)
        have hbY : Below w.heap.size w w9 := HB.out.trans (hbX.mono HB.out.size)
        go_roundw
        case rel => exact ⟨k + 1, by omega, by go_num, hbY.grown hg9 hbY.size (fun k hk => by injection hk; omega), (R0.out.later hbX).grown hg9 (by simp; omega), _, B1, m1, B2, m2, inv_wait HI.out, k9, j1.kept_put2 _ _ u0' u1' (fun _ => sl_no_int) (fun _ => sl_no_int) intR_flat, j2.kept_put2 _ _ u0' u1' (fun _ => sl_no_wt) (fun _ => sl_no_wt) wtR_flat⟩
        case measure => simp [intOf]; omega
      · by_cases q3 : x.what % 4 = 3
        · have t0 : (x.what % 4 == 0) = false := by rw [q3]; rfl
          have t3 : (x.what % 4 == 3) = true := by rw [q3]; rfl
          clear q0 q3
          have C := Lib.hid (fun W (hb : Below wr.heap.size wr W) => give_any _ _ s x.task x.lock W (J.out.1.up hb) (J.out.2.up hb))
          go_wp2_with fail
          refine wp_region_still_seq 11 (by kernel_rfl) (by kernel_rfl) (fun _ _ _ _ _ h => h) ?_
          simp only [List.take_succ_cons, List.take_zero, List.drop_succ_cons, List.drop_zero, World.drew_eq]
          repeat still_step
          refine wpStill_nil ?_
          go_wp2_with fail
          refine (C.out _ (bdd (Below.refl _ _))).mono fun e w9 h => ?_
          obtain ⟨B1, m1, B2, m2, rfl, j1, j2, hb9⟩ := st_form (s' := (giveS s x.task x.lock).1) (e0 := (giveS s x.task x.lock).2) rfl h
          clear h
          have u0' := cell_later hb9 (show _ from u0)
          have u1' := cell_later hb9 (show _ from u1)
          have g0' := free_later hb9 (show _ from u0) g0
          have g1' := free_later hb9 (show _ from u1) g1
          have hbX : Below wr.heap.size wr w9 := (bdd (Below.refl _ _)).trans hb9
          go_wp2_with fail
          obtain ⟨k9, hg9⟩ := (K0.out.later hbX).put2 (.slice B1 (giveS s x.task x.lock).1.hs.length m1) (.slice B2 (giveS s x.task x.lock).1.ws.length m2)
          have hbY : Below w.heap.size w w9 := HB.out.trans (hbX.mono HB.out.size)
          go_roundw
          case rel => exact ⟨k + 1, by omega, by go_num, hbY.grown hg9 hbY.size (fun k hk => by injection hk; omega), (R0.out.later hbX).grown hg9 (by simp; omega), _, B1, m1, B2, m2, inv_give HI.out, k9, j1.kept_put2 _ _ u0' u1' (fun _ => sl_no_int) (fun _ => sl_no_int) intR_flat, j2.kept_put2 _ _ u0' u1' (fun _ => sl_no_wt) (fun _ => sl_no_wt) wtR_flat⟩
          case measure => simp [intOf]; omega
        · have t0 : (x.what % 4 == 0) = false := by simpa using q0
          have t3 : (x.what % 4 == 3) = false := by simpa using q3
          clear q0 q3
          have C := Lib.hid (fun W (hb : Below wr.heap.size wr W) => take_any _ _ s x.task x.lock W (J.out.1.up hb) (J.out.2.up hb) BT.out)
          go_wp2_with fail
          refine wp_region_still_seq 11 (by kernel_rfl) (by kernel_rfl) (fun _ _ _ _ _ h => h) ?_
          simp only [List.take_succ_cons, List.take_zero, List.drop_succ_cons, List.drop_zero, World.drew_eq]
          repeat still_step
          refine wpStill_nil ?_
          go_wp2_with fail
          refine (C.out _ (bdd (Below.refl _ _))).mono fun e w9 h => ?_
          obtain ⟨B1, m1, B2, m2, rfl, j1, j2, hb9⟩ := st_form (s' := (takeS s x.task x.lock).1) (e0 := (takeS s x.task x.lock).2) rfl h
          clear h
          have u0' := cell_later hb9 (show _ from u0)
          have u1' := cell_later hb9 (show _ from u1)
          have g0' := free_later hb9 (show _ from u0) g0
          have g1' := free_later hb9 (show _ from u1) g1
          have hbX : Below wr.heap.size wr w9 := (bdd (Below.refl _ _)).trans hb9
          go_wp2_with fail
          obtain ⟨k9, hg9⟩ := (K0.out.later hbX).put2 (.slice B1 (takeS s x.task x.lock).1.hs.length m1) (.slice B2 (takeS s x.task x.lock).1.ws.length m2)
          have hbY : Below w.heap.size w w9 := HB.out.trans (hbX.mono HB.out.size)
          go_roundw
          case rel => exact ⟨k + 1, by omega, by go_num, hbY.grown hg9 hbY.size (fun k hk => by injection hk; omega), (R0.out.later hbX).grown hg9 (by simp; omega), _, B1, m1, B2, m2, inv_take HI.out, k9, j1.kept_put2 _ _ u0' u1' (fun _ => sl_no_int) (fun _ => sl_no_int) intR_flat, j2.kept_put2 _ _ u0' u1' (fun _ => sl_no_wt) (fun _ => sl_no_wt) wtR_flat⟩
          case measure => simp [intOf]; omega
    · have x0 := r0.c 0 _ rfl
      have x1 := r0.c 1 _ rfl
      have x2 := r0.f 0
      have x3 := r0.f 1
      have HB := Lib.hid hb
      have J := Lib.hid (And.intro i1 i2)
      clear r0 k0 i1 i2 hb
      go_wp2_with fail
      obtain ⟨f0, f1, hgf⟩ := put2 (a := .slice A1 s.hs.length d1) (b := .slice A2 s.ws.length d2) x0 x1
      refine bodyPost_ret (v := .tuple #[.agg #[.slice A1 s.hs.length d1, .slice A2 s.ws.length d2], .bool true]) (by simp [results, Try.results21, go_sem, f0, f1]) rfl
        ⟨_, s, rfl, ⟨_, _, rfl, J.out.1.kept_put2 _ _ x0 x1 (fun _ => sl_no_int) (fun _ => sl_no_int) intR_flat, J.out.2.kept_put2 _ _ x0 x1 (fun _ => sl_no_wt) (fun _ => sl_no_wt) wtR_flat⟩, hi, HB.out.grown hgf HB.out.size (fun k hk => by injection hk; omega)⟩
end Go.Proofs.Ytgmjfmajdnoogaa
