/-
  The walk of the law LocksPlays: it returns true. Conditions: as the theorem says.
-/
import Derived.Test.YtgmjfmajdnoogaaLkLed
import Derived.Test.YtgmjfmajdnoogaaLkDa
namespace Go.Proofs.Ytgmjfmajdnoogaa
open Go.RowKit

theorem inv_do {s : St} {what t l : Int} (h : Inv s) : Inv (doS s what t l) := by
  unfold doS
  split
  · exact inv_wait h
  split
  · exact inv_take h
  split
  · exact inv_give h
  · exact h

set_option maxHeartbeats 1000000 in
set_option maxRecDepth 20000 in
theorem lawPlays_any (n : Int) (v : Value) (xs : List Cl) (w : World) (hs : Sl clR w v xs) :
    Calls Try.prog 7 #[.int .i64 n, v] w fun e w' => e = .returned (.bool true) ∧ Below w.heap.size w w' := by
  obtain ⟨A, c, rfl, hc, hm, hs⟩ := hs.open
  have hl : xs.length ≤ 9223372036854775807 := by omega
  by_cases g1 : 100 < xs.length
  · go_enter Try.func7, Try.ntmps7
    go_wp2_with (go_at_call 9; refine (awake_any _).mono ?_; rintro e w1 ⟨rfl, hb1⟩)
    go_ret
    exact ⟨rfl, hb1⟩
  have HS := Lib.hid hs
  clear hs
  by_cases hn : n < 0 ∨ 64 < n
  · have HN := Lib.hid (show newS n = (⟨[], []⟩, 7) by rw [newS, if_pos hn])
    go_enter Try.func7, Try.ntmps7
    go_wp2_with fail
    refine (new_any n w).mono fun e w1 h => ?_
    obtain ⟨A0, c0, A0', c0', rfl, i0, i0', hb1⟩ := st_form HN.out h
    clear h
    have HB1 := Lib.hid hb1
    have I0 := Lib.hid (And.intro i0 i0')
    clear hb1 i0 i0'
    go_wp2_with fail
    refine at_call (fun W => Below w.heap.size w W ∧ Cells W w1.heap.size [.slice A0 (⟨[], []⟩ : St).hs.length c0, .slice A0' (⟨[], []⟩ : St).ws.length c0'] ∧ Sl intR W (.slice A0 (⟨[], []⟩ : St).hs.length c0) (⟨[], []⟩ : St).hs ∧ Sl wtR W (.slice A0' (⟨[], []⟩ : St).ws.length c0') (⟨[], []⟩ : St).ws)
      ⟨bal HB1.out, Cells.new _ _ _, I0.out.1.up (ba _ _), I0.out.2.up (ba _ _)⟩ fun W2 ⟨hb2, k0, i1, i2⟩ => ?_
    refine (rnew_any n W2).mono fun e w3 h => ?_
    obtain ⟨B0, b0, B0', b0', rfl, j0, j0', hb3⟩ := st_form HN.out h
    clear h
    have K3 := Lib.hid (k0.later hb3)
    have I3 := Lib.hid (And.intro (And.intro (i1.up hb3) (i2.up hb3)) (And.intro j0 j0'))
    have HB3 := Lib.hid (hb2.trans (hb3.mono hb2.size))
    have z1 : w.heap.size ≤ w1.heap.size := HB1.out.size
    have u0 := K3.out.c 0 _ rfl
    have u1 := K3.out.c 1 _ rfl
    have y0 := K3.out.lt
    clear hb2 k0 i1 i2 hb3 j0 j0' I0 HB1
    go_wp2_with fail
    clear u0 u1 y0
    refine at_call (fun W => Below w.heap.size w W ∧ Cells W w1.heap.size [.slice A0 (⟨[], []⟩ : St).hs.length c0, .slice A0' (⟨[], []⟩ : St).ws.length c0'] ∧ Cells W w3.heap.size [.slice B0 (⟨[], []⟩ : St).hs.length b0, .slice B0' (⟨[], []⟩ : St).ws.length b0'] ∧ (Sl intR W (.slice A0 (⟨[], []⟩ : St).hs.length c0) (⟨[], []⟩ : St).hs ∧ Sl wtR W (.slice A0' (⟨[], []⟩ : St).ws.length c0') (⟨[], []⟩ : St).ws) ∧ (Sl intR W (.slice B0 (⟨[], []⟩ : St).hs.length b0) (⟨[], []⟩ : St).hs ∧ Sl wtR W (.slice B0' (⟨[], []⟩ : St).ws.length b0') (⟨[], []⟩ : St).ws))
      ⟨bal HB3.out, K3.out.alloc _, Cells.new _ _ _, ⟨I3.out.1.1.up (ba _ _), I3.out.1.2.up (ba _ _)⟩, ⟨I3.out.2.1.up (ba _ _), I3.out.2.2.up (ba _ _)⟩⟩ fun W4 ⟨hb4, k0, q0, i1, i2⟩ => ?_
    have hsame : sameS (⟨[], []⟩ : St) (⟨[], []⟩ : St) = true := by simp [sameS]
    have C9 := Lib.hid (hsame ▸ same_any _ _ _ _ _ _ W4 i1.1 i1.2 i2.1 i2.2)
    have HB4 := Lib.hid hb4
    have K4 := Lib.hid k0
    have I4 := Lib.hid i1
    clear hb4 k0 q0 i1 i2 hsame HB3 K3 I3
    refine C9.out.mono ?_
    rintro e w5 ⟨rfl, hb5⟩
    have HB5 := Lib.hid (HB4.out.trans (hb5.mono HB4.out.size))
    have K5 := Lib.hid (K4.out.later hb5)
    have I5 := Lib.hid (And.intro (I4.out.1.up hb5) (I4.out.2.up hb5))
    clear hb5 K4 I4 HB4 C9
    go_wp2_with fail
    go_loopw [9] (fun i wr => i = .int .i64 0 ∧ Hid (Below w.heap.size w wr)) (fun i _ => 0)
    case atStart => exact ⟨rfl, HB5.out⟩
    case round =>
      obtain ⟨rfl, hb⟩ := hrel
      by_cases hlt : 0 < xs.length
      · have hlt' : (0 : Int) < (xs.length : Int) := by omega
        go_wp2_with (go_at_call 9; refine (awake_any _).mono ?_; rintro e w9 ⟨rfl, hb9⟩)
        go_ret
        exact ⟨rfl, hb.out.trans (hb9.mono hb.out.size)⟩
      · have hlt' : ¬ (0 : Int) < (xs.length : Int) := by omega
        go_wp2_with (go_at_call 9; refine (awake_any _).mono ?_; rintro e w9 ⟨rfl, hb9⟩)
        go_ret
        exact ⟨rfl, hb.out.trans (hb9.mono hb.out.size)⟩
  · have hinv := inv_new (n := n) (by omega) (by omega)
    generalize hN : newS n = N at hinv
    obtain ⟨s0, e0⟩ := N
    obtain ⟨rfl, hi0⟩ := hinv
    have HN := Lib.hid hN
    have HI := Lib.hid hi0
    clear hN hi0 hn
    go_enter Try.func7, Try.ntmps7
    go_wp2_with fail
    refine (new_any n w).mono fun e w1 h => ?_
    obtain ⟨A0, c0, A0', c0', rfl, i0, i0', hb1⟩ := st_form HN.out h
    clear h
    have HB1 := Lib.hid hb1
    have I0 := Lib.hid (And.intro i0 i0')
    clear hb1 i0 i0'
    go_wp2_with fail
    refine at_call (fun W => Below w.heap.size w W ∧ Cells W w1.heap.size [.slice A0 s0.hs.length c0, .slice A0' s0.ws.length c0'] ∧ Sl intR W (.slice A0 s0.hs.length c0) s0.hs ∧ Sl wtR W (.slice A0' s0.ws.length c0') s0.ws)
      ⟨bal HB1.out, Cells.new _ _ _, I0.out.1.up (ba _ _), I0.out.2.up (ba _ _)⟩ fun W2 ⟨hb2, k0, i1, i2⟩ => ?_
    refine (rnew_any n W2).mono fun e w3 h => ?_
    obtain ⟨B0, b0, B0', b0', rfl, j0, j0', hb3⟩ := st_form HN.out h
    clear h
    have K3 := Lib.hid (k0.later hb3)
    have I3 := Lib.hid (And.intro (And.intro (i1.up hb3) (i2.up hb3)) (And.intro j0 j0'))
    have HB3 := Lib.hid (hb2.trans (hb3.mono hb2.size))
    have z1 : w.heap.size ≤ w1.heap.size := HB1.out.size
    have u0 := K3.out.c 0 _ rfl
    have u1 := K3.out.c 1 _ rfl
    have y0 := K3.out.lt
    clear hb2 k0 i1 i2 hb3 j0 j0' I0 HB1
    go_wp2_with fail
    clear u0 u1 y0
    refine at_call (fun W => Below w.heap.size w W ∧ Cells W w1.heap.size [.slice A0 s0.hs.length c0, .slice A0' s0.ws.length c0'] ∧ Cells W w3.heap.size [.slice B0 s0.hs.length b0, .slice B0' s0.ws.length b0'] ∧ (Sl intR W (.slice A0 s0.hs.length c0) s0.hs ∧ Sl wtR W (.slice A0' s0.ws.length c0') s0.ws) ∧ (Sl intR W (.slice B0 s0.hs.length b0) s0.hs ∧ Sl wtR W (.slice B0' s0.ws.length b0') s0.ws))
      ⟨bal HB3.out, K3.out.alloc _, Cells.new _ _ _, ⟨I3.out.1.1.up (ba _ _), I3.out.1.2.up (ba _ _)⟩, ⟨I3.out.2.1.up (ba _ _), I3.out.2.2.up (ba _ _)⟩⟩ fun W4 ⟨hb4, k0, q0, i1, i2⟩ => ?_
    have hsame : sameS s0 s0 = true := by simp [sameS]
    have C9 := Lib.hid (hsame ▸ same_any _ _ _ _ _ _ W4 i1.1 i1.2 i2.1 i2.2)
    have HB4 := Lib.hid hb4
    have K4 := Lib.hid k0
    have I4 := Lib.hid i1
    clear hb4 k0 q0 i1 i2 hsame HB3 K3 I3
    refine C9.out.mono ?_
    rintro e w5 ⟨rfl, hb5⟩
    have HB5 := Lib.hid (HB4.out.trans (hb5.mono HB4.out.size))
    have K5 := Lib.hid (K4.out.later hb5)
    have I5 := Lib.hid (And.intro (I4.out.1.up hb5) (I4.out.2.up hb5))
    clear hb5 K4 I4 HB4 C9
    go_wp2_with fail
    go_loopw [9] (fun i wr => ∃ k : Nat, k ≤ xs.length ∧ i = .int .i64 k ∧ Hid (Below w.heap.size w wr ∧ ∃ s A1 d1 A2 d2, Inv s ∧ Cells wr w1.heap.size [.slice A1 s.hs.length d1, .slice A2 s.ws.length d2] ∧ Sl intR wr (.slice A1 s.hs.length d1) s.hs ∧ Sl wtR wr (.slice A2 s.ws.length d2) s.ws)) (fun i _ => xs.length - (intOf i).toNat)
    case atStart => exact ⟨0, by omega, rfl, HB5.out, s0, A0, c0, A0', c0', HI.out, K5.out, I5.out.1, I5.out.2⟩
    case round =>
      obtain ⟨k, hk, rfl, hb⟩ := hrel
      obtain ⟨hb, s, A1, d1, A2, d2, hi, k0, i1, i2⟩ := hb.out
      by_cases hlt : k < xs.length
      · obtain ⟨b, off, rfl, hbl, e0, e1, e2, hw, bt, _⟩ := (HS.out.up hb).atC hlt
        have hk0 : (0 : Int) ≤ (k : Int) := by omega
        have hk1 : (k : Int) < (xs.length : Int) := by omega
        have u0 := k0.c 0 _ rfl
        have u1 := k0.c 1 _ rfl
        have z3 := k0.lt
        have HB := Lib.hid hb
        have K0 := Lib.hid k0
        have HI := Lib.hid hi
        have hc1 : s.hs.length ≤ 64 := (chk_parts hi.1).1
        have hc2 : s.ws.length ≤ 200 := (chk_ok hi.1).2.1
        generalize hx : xs[k] = x at e0 e1 e2 hw bt
        have C := Lib.hid (fun W (hb : Below wr.heap.size wr W) => do_any _ _ s x.what x.task x.lock W (i1.up hb) (i2.up hb) (by omega) (by omega) hw.1 hw.2 bt)
        clear hb k0 i1 i2 hi bt hx hc1 hc2 hw
        go_wp2_with fail
        have HE := Lib.hid (And.intro u0 u1)
        go_region_held3 (fun W => W.cell? ⟨w1.heap.size, 0, none⟩ = some (.slice A1 s.hs.length d1) ∧ W.cell? ⟨w1.heap.size, 1, none⟩ = some (.slice A2 s.ws.length d2) ∧ W.cell? ⟨b, off + k * 3, none⟩ = some (.int .u8 x.what) ∧ W.cell? ⟨b, off + k * 3 + 1, none⟩ = some (.int .i64 x.task) ∧ W.cell? ⟨b, off + k * 3 + 2, none⟩ = some (.int .i64 x.lock))
          (exact ⟨by first | assumption | go_simp, by first | assumption | go_simp, by first | assumption | go_simp, by first | assumption | go_simp, by first | assumption | go_simp⟩)
          (first
            | (go_at_call 20; refine (C.out _ (by first | exact bdd (Below.refl _ _) | exact bdd (bal (Below.refl _ _)) | fail)).mono ?_; rintro e w9 ⟨vv, rfl, hst, hb9⟩; obtain ⟨B1, m1, B2, m2, rfl, j1, j2⟩ := hst.form; have hbX : Below wr.heap.size wr w9 := (by first | exact (bdd (Below.refl _ _)).trans hb9 | exact (bdd (bal (Below.refl _ _))).trans (hb9.mono (by simp))); have u0' := cell_later hbX u0; have u1' := cell_later hbX u1; have e0' := cell_later hbX e0; have e1' := cell_later hbX e1; have e2' := cell_later hbX e2; have y0' := World.block_lt_of_cell? _ _ u0'; have y1' := World.block_lt_of_cell? _ _ e0'; have n0' : w1.heap.size ≠ w9.heap.size := Nat.ne_of_lt y0'; have n1' : b ≠ w9.heap.size := Nat.ne_of_lt y1'; have n2' : w1.heap.size ≠ wr.heap.size := Nat.ne_of_lt z3; have n3' : b ≠ wr.heap.size := Nat.ne_of_lt (World.block_lt_of_cell? _ _ e0); (first | (have x0' := cell_later hb9 (show ((wr.alloc (.cells #[.slice none 0 0, .slice none 0 0] 25)).drew).cell? ⟨wr.heap.size, 0, none⟩ = some (.slice none 0 0) from (Cells.new wr [.slice none 0 0, .slice none 0 0] _).drew.c 0 _ rfl); have x1' := cell_later hb9 (show ((wr.alloc (.cells #[.slice none 0 0, .slice none 0 0] 25)).drew).cell? ⟨wr.heap.size, 1, none⟩ = some (.slice none 0 0) from (Cells.new wr [.slice none 0 0, .slice none 0 0] _).drew.c 1 _ rfl); have x2' := free_later hb9 (show ((wr.alloc (.cells #[.slice none 0 0, .slice none 0 0] 25)).drew).cell? ⟨wr.heap.size, 0, none⟩ = some (.slice none 0 0) from (Cells.new wr [.slice none 0 0, .slice none 0 0] _).drew.c 0 _ rfl) ((Cells.new wr [.slice none 0 0, .slice none 0 0] _).drew.f 0); have x3' := free_later hb9 (show ((wr.alloc (.cells #[.slice none 0 0, .slice none 0 0] 25)).drew).cell? ⟨wr.heap.size, 1, none⟩ = some (.slice none 0 0) from (Cells.new wr [.slice none 0 0, .slice none 0 0] _).drew.c 1 _ rfl) ((Cells.new wr [.slice none 0 0, .slice none 0 0] _).drew.f 1)) | skip))
            | fail)
        · refine at_world (fun W => Below w.heap.size w W ∧ Cells W w1.heap.size [.slice A1 s.hs.length d1, .slice A2 s.ws.length d2] ∧ Cells W w9.heap.size [.slice B1 (doS s x.what x.task x.lock).hs.length m1, .slice B2 (doS s x.what x.task x.lock).ws.length m2] ∧ Sl intR W (.slice B1 (doS s x.what x.task x.lock).hs.length m1) (doS s x.what x.task x.lock).hs ∧ Sl wtR W (.slice B2 (doS s x.what x.task x.lock).ws.length m2) (doS s x.what x.task x.lock).ws)
            (by clear u0 u1 e0 e1 e2; exact (have hY := HB.out.trans (hbX.mono HB.out.size); ⟨bal hY, (K0.out.later hbX).alloc _, Cells.new _ _ _, j1.up (ba _ _), j2.up (ba _ _)⟩)) fun W9 ⟨hb9, k9, q9, j1, j2⟩ => ?_
          have u0 := k9.c 0 _ rfl
          have u1 := k9.c 1 _ rfl
          have g0 := k9.f 0
          have g1 := k9.f 1
          have q0 := q9.c 0 _ rfl
          have q1 := q9.c 1 _ rfl
          have HB9 := Lib.hid hb9
          have K9' := Lib.hid k9
          have J9' := Lib.hid (And.intro j1 j2)
          clear hb9 k9 q9 j1 j2
          go_wp2_with fail
          obtain ⟨k9, hg9⟩ := K9'.out.put2 (.slice B1 (doS s x.what x.task x.lock).hs.length m1) (.slice B2 (doS s x.what x.task x.lock).ws.length m2)
          go_roundw
          case rel => exact ⟨k + 1, by omega, by go_num, HB9.out.grown hg9 HB9.out.size (fun k hk => by injection hk; omega), _, B1, m1, B2, m2, inv_do HI.out, k9, J9'.out.1.kept_put2 _ _ u0 u1 (fun _ => sl_no_int) (fun _ => sl_no_int) intR_flat, J9'.out.2.kept_put2 _ _ u0 u1 (fun _ => sl_no_wt) (fun _ => sl_no_wt) wtR_flat⟩
          case measure => simp [intOf]; omega
        · refine at_world (fun W => Below w.heap.size w W ∧ Cells W w1.heap.size [.slice A1 s.hs.length d1, .slice A2 s.ws.length d2] ∧ Cells W wr.heap.size [.slice B1 (doS s x.what x.task x.lock).hs.length m1, .slice B2 (doS s x.what x.task x.lock).ws.length m2] ∧ Sl intR W (.slice B1 (doS s x.what x.task x.lock).hs.length m1) (doS s x.what x.task x.lock).hs ∧ Sl wtR W (.slice B2 (doS s x.what x.task x.lock).ws.length m2) (doS s x.what x.task x.lock).ws)
            (by obtain ⟨kq, hgq⟩ := ((Cells.new wr [.slice none 0 0, .slice none 0 0] 25).drew.later hb9).put2 (.slice B1 (doS s x.what x.task x.lock).hs.length m1) (.slice B2 (doS s x.what x.task x.lock).ws.length m2); exact (have hY := HB.out.trans (hbX.mono HB.out.size); ⟨hY.grown hgq hY.size (fun k hk => by injection hk; have := HB.out.size; omega), (K0.out.later hbX).grown hgq (by simp; omega), kq, j1.kept_put2 _ _ x0' x1' (fun _ => sl_no_int) (fun _ => sl_no_int) intR_flat, j2.kept_put2 _ _ x0' x1' (fun _ => sl_no_wt) (fun _ => sl_no_wt) wtR_flat⟩)) fun W9 ⟨hb9, k9, q9, j1, j2⟩ => ?_
          have u0 := k9.c 0 _ rfl
          have u1 := k9.c 1 _ rfl
          have g0 := k9.f 0
          have g1 := k9.f 1
          have q0 := q9.c 0 _ rfl
          have q1 := q9.c 1 _ rfl
          have HB9 := Lib.hid hb9
          have K9' := Lib.hid k9
          have J9' := Lib.hid (And.intro j1 j2)
          clear hb9 k9 q9 j1 j2
          go_wp2_with fail
          obtain ⟨k9, hg9⟩ := K9'.out.put2 (.slice B1 (doS s x.what x.task x.lock).hs.length m1) (.slice B2 (doS s x.what x.task x.lock).ws.length m2)
          go_roundw
          case rel => exact ⟨k + 1, by omega, by go_num, HB9.out.grown hg9 HB9.out.size (fun k hk => by injection hk; omega), _, B1, m1, B2, m2, inv_do HI.out, k9, J9'.out.1.kept_put2 _ _ u0 u1 (fun _ => sl_no_int) (fun _ => sl_no_int) intR_flat, J9'.out.2.kept_put2 _ _ u0 u1 (fun _ => sl_no_wt) (fun _ => sl_no_wt) wtR_flat⟩
          case measure => simp [intOf]; omega
      · go_wp2_with (go_at_call 9; refine (awake_any _).mono ?_; rintro e w9 ⟨rfl, hb9⟩)
        go_ret
        exact ⟨rfl, hb.trans (hb9.mono hb.size)⟩
end Go.Proofs.Ytgmjfmajdnoogaa
