/-
  Walk of groundlinglaw14.do. Conditions: as the theorem says.
-/
import Derived.Test.YtgmjfmajdnoogaaLkDo
namespace Go.Proofs.Ytgmjfmajdnoogaa
open Go.RowKit

set_option maxHeartbeats 2000000 in
set_option maxRecDepth 100000 in
theorem do_6 (v1 v2 : Value) (s : St) (what t l : Int) (w : World) (h1 : Sl intR w v1 s.hs) (h2 : Sl wtR w v2 s.ws) (z1 : s.hs.length ≤ 1000) (z2 : s.ws.length ≤ 1000) (hw0 : 0 ≤ what) (hw1 : what ≤ 255) (_bt : Bd t) (hr : what % 8 = 6) :
    Calls Try.prog 20 #[.agg #[v1, v2], .agg #[.int .u8 what, .int .i64 t, .int .i64 l]] w fun e w' => ∃ v, e = .returned (.tuple #[v, .bool true]) ∧ IsSt w' v s ∧ Below w.heap.size w w' := by
  obtain ⟨A, c, rfl, hc, hm, h1⟩ := h1.open
  obtain ⟨A', c', rfl, _, hm', h2⟩ := h2.open
  have HS1 := Lib.hid h1
  have HS2 := Lib.hid h2
  have C0 := Lib.hid (fun W (hb : Below w.heap.size w W) => copy_any _ _ s W (h1.up hb) (h2.up hb) z1 z2)
  clear h1 h2
  have t0 : (what % 8 == 0) = false := by rw [hr]; rfl
  have t1 : (what % 8 == 1) = false := by rw [hr]; rfl
  have t2 : (what % 8 == 2) = false := by rw [hr]; rfl
  have t3 : (what % 8 == 3) = false := by rw [hr]; rfl
  have t4 : (what % 8 == 4) = false := by rw [hr]; rfl
  have t5 : (what % 8 == 5) = false := by rw [hr]; rfl
  have t6 : (what % 8 == 6) = true := by rw [hr]; rfl
  clear hr
  go_enter Try.func20, Try.ntmps20
  go_wp2_with fail
  refine at_call (fun W => Below w.heap.size w W ∧ W.heap.size = w.heap.size + 3 ∧ Cells W w.heap.size [.slice A s.hs.length c, .slice A' s.ws.length c'] ∧ Cells W (w.heap.size + 1) [.int .u8 what, .int .i64 t, .int .i64 l] ∧ Cells W (w.heap.size + 2) [.slice none 0 0, .slice none 0 0])
    ⟨bal (bal (ba _ _)), by simp, ((Cells.new _ _ _).alloc _).alloc _, by have h := (Cells.new (w.alloc (.cells #[.slice A s.hs.length c, .slice A' s.ws.length c'] 25)) [.int .u8 what, .int .i64 t, .int .i64 l] 42).alloc (.cells #[.slice none 0 0, .slice none 0 0] 25); simpa using h, by have h := Cells.new ((w.alloc (.cells #[.slice A s.hs.length c, .slice A' s.ws.length c'] 25)).alloc (.cells #[.int .u8 what, .int .i64 t, .int .i64 l] 42)) [.slice none 0 0, .slice none 0 0] 25; simpa using h⟩ fun W0 ⟨hb0, hz, k0, k1, r0⟩ => ?_
  refine (C0.out _ hb0).mono ?_
  rintro e w1 ⟨x1, x2, rfl, ho1, ho2, hb1⟩
  obtain ⟨A1, d1, hx1, _, _, o1⟩ := ho1.form
  obtain ⟨A2, d2, hx2, _, _, o2⟩ := ho2.form
  rw [hx1, hx2]
  clear hx1 hx2
  have K0 := Lib.hid (k0.later hb1)
  have K1 := Lib.hid (k1.later hb1)
  have R0 := Lib.hid (r0.later hb1)
  have HB1 := Lib.hid (hb0.trans (hb1.mono hb0.size))
  have O1 := Lib.hid o1
  have O2 := Lib.hid o2
  have zz : w.heap.size + 3 ≤ w1.heap.size := by have := hb1.size; omega
  have c0 := K0.out.c 0 _ rfl
  have c1 := K0.out.c 1 _ rfl
  have b0 := K1.out.c 0 _ rfl
  have b1 := K1.out.c 1 _ rfl
  have b2 := K1.out.c 2 _ rfl
  have y0 : w.heap.size < w1.heap.size := by omega
  have y1 : w.heap.size + 1 < w1.heap.size := by omega
  clear hb0 hb1 k0 k1 r0 ho1 ho2 o1 o2 hz
  go_wp2_with fail
  refine at_call (fun W => Below w.heap.size w W ∧ Cells W w.heap.size [.slice A s.hs.length c, .slice A' s.ws.length c'] ∧ Cells W (w.heap.size + 1) [.int .u8 what, .int .i64 t, .int .i64 l] ∧ Cells W (w.heap.size + 2) [.slice none 0 0, .slice none 0 0] ∧
      Cells W w1.heap.size [.slice A1 s.hs.length d1, .slice A2 s.ws.length d2] ∧ Cells W (w1.heap.size + 1) [.slice A s.hs.length c, .slice A' s.ws.length c'] ∧ Own intR 3 W0.heap.size W (.slice A1 s.hs.length d1) s.hs ∧ Own wtR 33 W0.heap.size W (.slice A2 s.ws.length d2) s.ws)
    ⟨bal (bal HB1.out), (K0.out.alloc _).alloc _, (K1.out.alloc _).alloc _, (R0.out.alloc _).alloc _, (Cells.new w1 _ _).alloc _, by have h := Cells.new (w1.alloc (.cells #[.slice A1 s.hs.length d1, .slice A2 s.ws.length d2] 25)) [.slice A s.hs.length c, .slice A' s.ws.length c'] 25; simpa using h, (O1.out.up (ba _ _)).up (ba _ _), (O2.out.up (ba _ _)).up (ba _ _)⟩ fun W2 ⟨hb2, k0, k1, r0, m0, n0, o1, o2⟩ => ?_
  cases hT : cycS s with | mk L E
  have HT := Lib.hid hT
  clear hT
  refine (cycle_any _ _ s W2 (HS1.out.up hb2) (HS2.out.up hb2)).mono fun e w3 h => ?_
  obtain ⟨A3, d3, rfl, l3, hb3⟩ := ints_form HT.out h
  have L3 := Lib.hid l3
  clear h l3
  have HF := Lib.hid (And.intro hb2 (And.intro k0 (And.intro k1 (And.intro r0 (And.intro m0 (And.intro n0 (And.intro o1 o2)))))))
  have D3 := Lib.hid hb3
  have G3 := Lib.hid (hb2.trans (hb3.mono hb2.size))
  clear k0 k1 r0 m0 n0 o1 o2 hb2 hb3
  have c0 := (HF.out.2.1.later D3.out).c 0 _ rfl
  have c1 := (HF.out.2.1.later D3.out).c 1 _ rfl
  have b1 := (HF.out.2.2.1.later D3.out).c 1 _ rfl
  have b2 := (HF.out.2.2.1.later D3.out).c 2 _ rfl
  have y0 := (HF.out.2.1.later D3.out).lt
  have y1 := (HF.out.2.2.1.later D3.out).lt
  go_wp2_with fail
  refine (rcycle_any _ _ s w3 (HS1.out.up G3.out) (HS2.out.up G3.out)).mono fun e w4 h => ?_
  obtain ⟨A4, d4, rfl, l4, hb4⟩ := ints_form HT.out h
  have L4 := Lib.hid l4
  clear h l4
  have D4 := Lib.hid (D3.out.trans (hb4.mono D3.out.size))
  have G4 := Lib.hid (G3.out.trans (hb4.mono G3.out.size))
  have hb4' := Lib.hid hb4
  clear hb4 c0 c1 b1 b2 y0 y1
  have c0 := (HF.out.2.1.later D4.out).c 0 _ rfl
  have c1 := (HF.out.2.1.later D4.out).c 1 _ rfl
  have b1 := (HF.out.2.2.1.later D4.out).c 1 _ rfl
  have b2 := (HF.out.2.2.1.later D4.out).c 2 _ rfl
  have y0 := (HF.out.2.1.later D4.out).lt
  have y1 := (HF.out.2.2.1.later D4.out).lt
  have U3 := hb4'
  have U4 := Lib.hid (Below.refl w4.heap.size w4)
  clear hb4'
  go_wp2_with fail
  refine (sameInts_any _ _ L L w4 (L3.out.up U3.out) (L4.out.up U4.out)).mono fun e w5 h => ?_
  obtain ⟨rfl, n, rfl⟩ : e = .returned (.bool true) ∧ ∃ n, w5 = w4.drewN n := by simpa using h
  clear h
  have D5 := Lib.hid (bdN D4.out n)
  have G5 := Lib.hid (bdN G4.out n)
  clear c0 c1 b1 b2 y0 y1
  generalize w4.drewN n = W10 at D5 G5 ⊢
  obtain ⟨_, k0, k1, r0, m0, n0, o1, o2⟩ := HF.out
  replace k0 := k0.later D5.out
  replace k1 := k1.later D5.out
  replace r0 := r0.later D5.out
  replace m0 := m0.later D5.out
  replace n0 := n0.later D5.out
  replace o1 := o1.up D5.out
  replace o2 := o2.up D5.out
  have hb10 := G5.out
  have j1 := o1.sl
  have j2 := o2.sl
  clear HF D5 G5
  have hsame : sameS s s = true := by simp [sameS]
  have C10 := Lib.hid (fun W (hb : Below W10.heap.size W10 W) => hsame ▸ same_any _ _ _ _ _ _ W (HS1.out.up (hb10.trans (hb.mono hb10.size))) (HS2.out.up (hb10.trans (hb.mono hb10.size))) (j1.up hb) (j2.up hb))
  have c0 := k0.c 0 _ rfl
  have c1 := k0.c 1 _ rfl
  have p0 := m0.c 0 _ rfl
  have p1 := m0.c 1 _ rfl
  have q0 := n0.c 0 _ rfl
  have q1 := n0.c 1 _ rfl
  have x0 := r0.c 0 _ rfl
  have x1 := r0.c 1 _ rfl
  have x2 := r0.f 0
  have x3 := r0.f 1
  have HB10 := Lib.hid hb10
  clear k0 k1 r0 m0 n0 j1 j2 hb10 hsame o1 o2
  go_wp2_with fail
  go_region_held3 (fun W => W.cell? ⟨w.heap.size, 0, none⟩ = some (.slice A s.hs.length c) ∧ W.cell? ⟨w.heap.size, 1, none⟩ = some (.slice A' s.ws.length c') ∧ W.cell? ⟨w1.heap.size, 0, none⟩ = some (.slice A1 s.hs.length d1) ∧ W.cell? ⟨w1.heap.size, 1, none⟩ = some (.slice A2 s.ws.length d2) ∧ W.cell? ⟨w1.heap.size + 1, 0, none⟩ = some (.slice A s.hs.length c) ∧ W.cell? ⟨w1.heap.size + 1, 1, none⟩ = some (.slice A' s.ws.length c'))
    (exact ⟨by first | assumption | go_simp, by first | assumption | go_simp, by first | assumption | go_simp, by first | assumption | go_simp, by first | assumption | go_simp, by first | assumption | go_simp⟩)
    (first
      | (go_at_call 23; refine (C10.out _ (by first | exact bdd (Below.refl _ _) | exact Below.refl _ _ | fail)).mono ?_; rintro e w11 ⟨rfl, hb11⟩; have c0' := cell_later hb11 (by first | exact c0 | go_simp); have c1' := cell_later hb11 (by first | exact c1 | go_simp); have p0' := cell_later hb11 (by first | exact p0 | go_simp); have p1' := cell_later hb11 (by first | exact p1 | go_simp); have q0' := cell_later hb11 (by first | exact q0 | go_simp); have q1' := cell_later hb11 (by first | exact q1 | go_simp); have x0' := cell_later hb11 (show _ from x0); have x1' := cell_later hb11 (show _ from x1); have x2' := free_later hb11 x0 x2; have x3' := free_later hb11 x1 x3)
      | fail)
  have hbX : Below W10.heap.size W10 w11 := (bdd (Below.refl _ _)).trans hb11
  go_wp2_with fail
  obtain ⟨f0, f1, hgf⟩ := put2 (a := .slice A s.hs.length c) (b := .slice A' s.ws.length c') x0' x1'
  have hbY : Below w.heap.size w w11 := HB10.out.trans (hbX.mono HB10.out.size)
  refine bodyPost_ret (v := .tuple #[.agg #[.slice A s.hs.length c, .slice A' s.ws.length c'], .bool true]) (by simp [results, Try.results20, go_sem, f0, f1]) rfl
    ⟨_, rfl, ⟨_, _, rfl, sl_putI (HS1.out.up hbY) x0' x1', sl_putW (HS2.out.up hbY) x0' x1'⟩, hbY.grown hgf hbY.size (fun k hk => by injection hk; omega)⟩

set_option maxHeartbeats 2000000 in
set_option maxRecDepth 100000 in
theorem do_7 (v1 v2 : Value) (s : St) (what t l : Int) (w : World) (h1 : Sl intR w v1 s.hs) (h2 : Sl wtR w v2 s.ws) (z1 : s.hs.length ≤ 1000) (z2 : s.ws.length ≤ 1000) (hw0 : 0 ≤ what) (hw1 : what ≤ 255) (_bt : Bd t) (hr : what % 8 = 7) :
    Calls Try.prog 20 #[.agg #[v1, v2], .agg #[.int .u8 what, .int .i64 t, .int .i64 l]] w fun e w' => ∃ v, e = .returned (.tuple #[v, .bool true]) ∧ IsSt w' v s ∧ Below w.heap.size w w' := by
  obtain ⟨A, c, rfl, hc, hm, h1⟩ := h1.open
  obtain ⟨A', c', rfl, _, hm', h2⟩ := h2.open
  have HS1 := Lib.hid h1
  have HS2 := Lib.hid h2
  have C0 := Lib.hid (fun W (hb : Below w.heap.size w W) => copy_any _ _ s W (h1.up hb) (h2.up hb) z1 z2)
  clear h1 h2
  have t0 : (what % 8 == 0) = false := by rw [hr]; rfl
  have t1 : (what % 8 == 1) = false := by rw [hr]; rfl
  have t2 : (what % 8 == 2) = false := by rw [hr]; rfl
  have t3 : (what % 8 == 3) = false := by rw [hr]; rfl
  have t4 : (what % 8 == 4) = false := by rw [hr]; rfl
  have t5 : (what % 8 == 5) = false := by rw [hr]; rfl
  have t6 : (what % 8 == 6) = false := by rw [hr]; rfl
  clear hr
  go_enter Try.func20, Try.ntmps20
  go_wp2_with fail
  refine at_call (fun W => Below w.heap.size w W ∧ W.heap.size = w.heap.size + 3 ∧ Cells W w.heap.size [.slice A s.hs.length c, .slice A' s.ws.length c'] ∧ Cells W (w.heap.size + 1) [.int .u8 what, .int .i64 t, .int .i64 l] ∧ Cells W (w.heap.size + 2) [.slice none 0 0, .slice none 0 0])
    ⟨bal (bal (ba _ _)), by simp, ((Cells.new _ _ _).alloc _).alloc _, by have h := (Cells.new (w.alloc (.cells #[.slice A s.hs.length c, .slice A' s.ws.length c'] 25)) [.int .u8 what, .int .i64 t, .int .i64 l] 42).alloc (.cells #[.slice none 0 0, .slice none 0 0] 25); simpa using h, by have h := Cells.new ((w.alloc (.cells #[.slice A s.hs.length c, .slice A' s.ws.length c'] 25)).alloc (.cells #[.int .u8 what, .int .i64 t, .int .i64 l] 42)) [.slice none 0 0, .slice none 0 0] 25; simpa using h⟩ fun W0 ⟨hb0, hz, k0, k1, r0⟩ => ?_
  refine (C0.out _ hb0).mono ?_
  rintro e w1 ⟨x1, x2, rfl, ho1, ho2, hb1⟩
  obtain ⟨A1, d1, hx1, _, _, o1⟩ := ho1.form
  obtain ⟨A2, d2, hx2, _, _, o2⟩ := ho2.form
  rw [hx1, hx2]
  clear hx1 hx2
  have K0 := Lib.hid (k0.later hb1)
  have K1 := Lib.hid (k1.later hb1)
  have R0 := Lib.hid (r0.later hb1)
  have HB1 := Lib.hid (hb0.trans (hb1.mono hb0.size))
  have O1 := Lib.hid o1
  have O2 := Lib.hid o2
  have zz : w.heap.size + 3 ≤ w1.heap.size := by have := hb1.size; omega
  have c0 := K0.out.c 0 _ rfl
  have c1 := K0.out.c 1 _ rfl
  have b0 := K1.out.c 0 _ rfl
  have b1 := K1.out.c 1 _ rfl
  have b2 := K1.out.c 2 _ rfl
  have y0 : w.heap.size < w1.heap.size := by omega
  have y1 : w.heap.size + 1 < w1.heap.size := by omega
  clear hb0 hb1 k0 k1 r0 ho1 ho2 o1 o2 hz
  go_wp2_with fail
  refine at_world (fun W => Below w.heap.size w W ∧ Cells W w.heap.size [.slice A s.hs.length c, .slice A' s.ws.length c'] ∧ Cells W (w.heap.size + 1) [.int .u8 what, .int .i64 t, .int .i64 l] ∧ Cells W (w.heap.size + 2) [.slice none 0 0, .slice none 0 0] ∧
      Cells W w1.heap.size [.slice A1 s.hs.length d1, .slice A2 s.ws.length d2] ∧ Cells W (w1.heap.size + 1) [.slice A s.hs.length c, .slice A' s.ws.length c'] ∧ Own intR 3 W0.heap.size W (.slice A1 s.hs.length d1) s.hs ∧ Own wtR 33 W0.heap.size W (.slice A2 s.ws.length d2) s.ws)
    ⟨bal (bal HB1.out), (K0.out.alloc _).alloc _, (K1.out.alloc _).alloc _, (R0.out.alloc _).alloc _, (Cells.new w1 _ _).alloc _, by have h := Cells.new (w1.alloc (.cells #[.slice A1 s.hs.length d1, .slice A2 s.ws.length d2] 25)) [.slice A s.hs.length c, .slice A' s.ws.length c'] 25; simpa using h, (O1.out.up (ba _ _)).up (ba _ _), (O2.out.up (ba _ _)).up (ba _ _)⟩ fun W2 ⟨hb2, k0, k1, r0, m0, n0, o1, o2⟩ => ?_
  have C1 := Lib.hid (fun W (hb : Below W2.heap.size W2 W) => check_any _ _ s W (HS1.out.up (hb2.trans (hb.mono hb2.size))) (HS2.out.up (hb2.trans (hb.mono hb2.size))))
  have C2 := Lib.hid (fun W (hb : Below W2.heap.size W2 W) => rcheck_any _ _ s W (HS1.out.up (hb2.trans (hb.mono hb2.size))) (HS2.out.up (hb2.trans (hb.mono hb2.size))))
  have f0 := gro_cell (k0.c 0 _ rfl)
  have f1 := gro_cell (k0.c 1 _ rfl)
  have HF := Lib.hid (And.intro hb2 (And.intro k0 (And.intro k1 (And.intro r0 (And.intro m0 (And.intro n0 (And.intro o1 o2)))))))
  clear hb2 k0 k1 r0 m0 n0 o1 o2
  refine wp_region_gro (by kernel_rfl) (by kernel_rfl) ?_
  repeat (go_big_quiet_step (first | (go_at_call 11; exact Calls.gro_of (C1.out _ (gro_below _ _))) | (go_at_call 42; exact Calls.gro_of (C2.out _ (gro_below _ _))) | fail))
  refine wpQuiet_nil ?_
  rintro _ ⟨p, rfl⟩
  have D7 := Lib.hid (gro_below W2 p)
  have G7 := Lib.hid (HF.out.1.trans (D7.out.mono HF.out.1.size))
  clear f0 f1
  generalize gro W2 p = W10 at D7 G7
  obtain ⟨_, k0, k1, r0, m0, n0, o1, o2⟩ := HF.out
  replace k0 := k0.later D7.out
  replace k1 := k1.later D7.out
  replace r0 := r0.later D7.out
  replace m0 := m0.later D7.out
  replace n0 := n0.later D7.out
  replace o1 := o1.up D7.out
  replace o2 := o2.up D7.out
  have hb10 := G7.out
  have j1 := o1.sl
  have j2 := o2.sl
  clear HF D7 G7
  have hsame : sameS s s = true := by simp [sameS]
  have C10 := Lib.hid (fun W (hb : Below W10.heap.size W10 W) => hsame ▸ same_any _ _ _ _ _ _ W (HS1.out.up (hb10.trans (hb.mono hb10.size))) (HS2.out.up (hb10.trans (hb.mono hb10.size))) (j1.up hb) (j2.up hb))
  have c0 := k0.c 0 _ rfl
  have c1 := k0.c 1 _ rfl
  have p0 := m0.c 0 _ rfl
  have p1 := m0.c 1 _ rfl
  have q0 := n0.c 0 _ rfl
  have q1 := n0.c 1 _ rfl
  have x0 := r0.c 0 _ rfl
  have x1 := r0.c 1 _ rfl
  have x2 := r0.f 0
  have x3 := r0.f 1
  have HB10 := Lib.hid hb10
  clear k0 k1 r0 m0 n0 j1 j2 hb10 hsame o1 o2
  go_wp2_with fail
  go_region_held3 (fun W => W.cell? ⟨w.heap.size, 0, none⟩ = some (.slice A s.hs.length c) ∧ W.cell? ⟨w.heap.size, 1, none⟩ = some (.slice A' s.ws.length c') ∧ W.cell? ⟨w1.heap.size, 0, none⟩ = some (.slice A1 s.hs.length d1) ∧ W.cell? ⟨w1.heap.size, 1, none⟩ = some (.slice A2 s.ws.length d2) ∧ W.cell? ⟨w1.heap.size + 1, 0, none⟩ = some (.slice A s.hs.length c) ∧ W.cell? ⟨w1.heap.size + 1, 1, none⟩ = some (.slice A' s.ws.length c'))
    (exact ⟨by first | assumption | go_simp, by first | assumption | go_simp, by first | assumption | go_simp, by first | assumption | go_simp, by first | assumption | go_simp, by first | assumption | go_simp⟩)
    (first
      | (go_at_call 23; refine (C10.out _ (by first | exact bdd (Below.refl _ _) | exact Below.refl _ _ | fail)).mono ?_; rintro e w11 ⟨rfl, hb11⟩; have c0' := cell_later hb11 (by first | exact c0 | go_simp); have c1' := cell_later hb11 (by first | exact c1 | go_simp); have p0' := cell_later hb11 (by first | exact p0 | go_simp); have p1' := cell_later hb11 (by first | exact p1 | go_simp); have q0' := cell_later hb11 (by first | exact q0 | go_simp); have q1' := cell_later hb11 (by first | exact q1 | go_simp); have x0' := cell_later hb11 (show _ from x0); have x1' := cell_later hb11 (show _ from x1); have x2' := free_later hb11 x0 x2; have x3' := free_later hb11 x1 x3)
      | fail)
  have hbX : Below W10.heap.size W10 w11 := (bdd (Below.refl _ _)).trans hb11
  go_wp2_with fail
  obtain ⟨f0, f1, hgf⟩ := put2 (a := .slice A s.hs.length c) (b := .slice A' s.ws.length c') x0' x1'
  have hbY : Below w.heap.size w w11 := HB10.out.trans (hbX.mono HB10.out.size)
  refine bodyPost_ret (v := .tuple #[.agg #[.slice A s.hs.length c, .slice A' s.ws.length c'], .bool true]) (by simp [results, Try.results20, go_sem, f0, f1]) rfl
    ⟨_, rfl, ⟨_, _, rfl, sl_putI (HS1.out.up hbY) x0' x1', sl_putW (HS2.out.up hbY) x0' x1'⟩, hbY.grown hgf hbY.size (fun k hk => by injection hk; omega)⟩

end Go.Proofs.Ytgmjfmajdnoogaa
