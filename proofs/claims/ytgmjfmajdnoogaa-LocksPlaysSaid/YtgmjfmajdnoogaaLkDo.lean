/-
  Walk of groundlinglaw14.do. Conditions: as the theorem says.
-/
import Derived.Test.YtgmjfmajdnoogaaLkZ
import Derived.Test.YtgmjfmajdnoogaaLkT
import Derived.Test.YtgmjfmajdnoogaaLkU
import Derived.Test.YtgmjfmajdnoogaaLawKn
import Derived.Test.YtgmjfmajdnoogaaLibQ
namespace Go.Proofs.Ytgmjfmajdnoogaa
open Go.RowKit

/-- The state behind a call of the law's. -/
def doS (s : St) (what t l : Int) : St :=
  if what % 8 = 0 then (waitS s t l).1 else if what % 8 = 1 ∨ what % 8 = 2 then (takeS s t l).1 else if what % 8 = 3 then (giveS s t l).1 else s

theorem sl_putI {w : World} {v : Value} {xs : List Int} {g : Nat} {A A' : Option Addr} {n n' c c' : Nat} {a b : Value} (h : Sl intR w v xs) (u0 : w.cell? ⟨g, 0, none⟩ = some (.slice A n c)) (u1 : w.cell? ⟨g, 1, none⟩ = some (.slice A' n' c')) : Sl intR ((w.setCell ⟨g, 0, none⟩ a).setCell ⟨g, 1, none⟩ b) v xs :=
  h.kept_put2 a b u0 u1 (fun _ => sl_no_int) (fun _ => sl_no_int) intR_flat
theorem sl_putW {w : World} {v : Value} {xs : List Wt} {g : Nat} {A A' : Option Addr} {n n' c c' : Nat} {a b : Value} (h : Sl wtR w v xs) (u0 : w.cell? ⟨g, 0, none⟩ = some (.slice A n c)) (u1 : w.cell? ⟨g, 1, none⟩ = some (.slice A' n' c')) : Sl wtR ((w.setCell ⟨g, 0, none⟩ a).setCell ⟨g, 1, none⟩ b) v xs :=
  h.kept_put2 a b u0 u1 (fun _ => sl_no_wt) (fun _ => sl_no_wt) wtR_flat

set_option maxHeartbeats 2000000 in
set_option maxRecDepth 100000 in
theorem do_0 (v1 v2 : Value) (s : St) (what t l : Int) (w : World) (h1 : Sl intR w v1 s.hs) (h2 : Sl wtR w v2 s.ws) (z1 : s.hs.length ≤ 1000) (z2 : s.ws.length ≤ 1000) (hw0 : 0 ≤ what) (hw1 : what ≤ 255) (bt : Bd t) (hr : what % 8 = 0) :
    Calls Try.prog 20 #[.agg #[v1, v2], .agg #[.int .u8 what, .int .i64 t, .int .i64 l]] w fun e w' => ∃ v, e = .returned (.tuple #[v, .bool true]) ∧ IsSt w' v (waitS s t l).1 ∧ Below w.heap.size w w' := by
  obtain ⟨A, c, rfl, hc, hm, h1⟩ := h1.open
  obtain ⟨A', c', rfl, _, hm', h2⟩ := h2.open
  have HS1 := Lib.hid h1
  have HS2 := Lib.hid h2
  have C0 := Lib.hid (fun W (hb : Below w.heap.size w W) => copy_any _ _ s W (h1.up hb) (h2.up hb) z1 z2)
  clear h1 h2
  have t0 : (what % 8 == 0) = true := by rw [hr]; rfl
  clear hr
  go_enter Try.func20, Try.ntmps20
  go_wp2_with fail
  refine at_call (fun W => Below w.heap.size w W ∧ W.heap.size = w.heap.size + 3 ∧ Cells W w.heap.size [.slice A s.hs.length c, .slice A' s.ws.length c'] ∧ Cells W (w.heap.size + 1) [.int .u8 what, .int .i64 t, .int .i64 l] ∧ Cells W (w.heap.size + 2) [.slice none 0 0, .slice none 0 0])
    ⟨bal (bal (ba _ _)), by simp, ((Cells.new _ _ _).alloc _).alloc _, by have h := (Cells.new (w.alloc (.cells #[.slice A s.hs.length c, .slice A' s.ws.length c'] 25)) [.int .u8 what, .int .i64 t, .int .i64 l] 42).alloc (.cells #[.slice none 0 0, .slice none 0 0] 25); simpa using h, by have h := Cells.new ((w.alloc (.cells #[.slice A s.hs.length c, .slice A' s.ws.length c'] 25)).alloc (.cells #[.int .u8 what, .int .i64 t, .int .i64 l] 42)) [.slice none 0 0, .slice none 0 0] 25; simpa using h⟩ fun W0 ⟨hb0, hz, k0, k1, r0⟩ => ?_
  refine (C0.out _ hb0).mono ?_
  rintro e w1 ⟨x1, x2, rfl, ho1, ho2, hb1⟩
  obtain ⟨A1, d1, hx1, _, _, o1⟩ := ho1.form
  obtain ⟨A2, d2, hx2, _, _, o2⟩ := ho2.form
  rw [hx1, hx2]
  clear hx1 hx2
  have K0 := Lib.hid (k0.later hb1)
  have K1 := Lib.hid (k1.later hb1)
  have R0 := Lib.hid (r0.later hb1)
  have HB1 := Lib.hid (hb0.trans (hb1.mono hb0.size))
  have O1 := Lib.hid o1
  have O2 := Lib.hid o2
  have zz : w.heap.size + 3 ≤ w1.heap.size := by have := hb1.size; omega
  have c0 := K0.out.c 0 _ rfl
  have c1 := K0.out.c 1 _ rfl
  have b0 := K1.out.c 0 _ rfl
  have b1 := K1.out.c 1 _ rfl
  have b2 := K1.out.c 2 _ rfl
  have y0 : w.heap.size < w1.heap.size := by omega
  have y1 : w.heap.size + 1 < w1.heap.size := by omega
  clear hb0 hb1 k0 k1 r0 ho1 ho2 o1 o2 hz
  go_wp2_with fail
  refine at_call (fun W => Below w.heap.size w W ∧ Cells W w.heap.size [.slice A s.hs.length c, .slice A' s.ws.length c'] ∧ Cells W (w.heap.size + 1) [.int .u8 what, .int .i64 t, .int .i64 l] ∧ Cells W (w.heap.size + 2) [.slice none 0 0, .slice none 0 0] ∧
      Cells W w1.heap.size [.slice A1 s.hs.length d1, .slice A2 s.ws.length d2] ∧ Cells W (w1.heap.size + 1) [.slice A s.hs.length c, .slice A' s.ws.length c'] ∧ Own intR 3 W0.heap.size W (.slice A1 s.hs.length d1) s.hs ∧ Own wtR 33 W0.heap.size W (.slice A2 s.ws.length d2) s.ws)
    ⟨bal (bal HB1.out), (K0.out.alloc _).alloc _, (K1.out.alloc _).alloc _, (R0.out.alloc _).alloc _, (Cells.new w1 _ _).alloc _, by have h := Cells.new (w1.alloc (.cells #[.slice A1 s.hs.length d1, .slice A2 s.ws.length d2] 25)) [.slice A s.hs.length c, .slice A' s.ws.length c'] 25; simpa using h, (O1.out.up (ba _ _)).up (ba _ _), (O2.out.up (ba _ _)).up (ba _ _)⟩ fun W2 ⟨hb2, k0, k1, r0, m0, n0, o1, o2⟩ => ?_
  refine (wait_any _ _ s t l W2 (HS1.out.up hb2) (HS2.out.up hb2) bt).mono fun e w3 h => ?_
  obtain ⟨Aa, da, Aa', da', rfl, ia, ia', hb3⟩ := st_form (s' := (waitS s t l).1) (e0 := (waitS s t l).2) rfl h
  clear h
  replace k0 := k0.later hb3
  replace k1 := k1.later hb3
  replace r0 := r0.later hb3
  replace m0 := m0.later hb3
  replace n0 := n0.later hb3
  replace o1 := o1.up hb3
  replace o2 := o2.up hb3
  have HB3 := Lib.hid (hb2.trans (hb3.mono hb2.size))
  have y2 : w1.heap.size + 1 < w3.heap.size := n0.lt
  have c0 := k0.c 0 _ rfl
  have c1 := k0.c 1 _ rfl
  have b0 := k1.c 0 _ rfl
  have b1 := k1.c 1 _ rfl
  have b2 := k1.c 2 _ rfl
  have y0 : w.heap.size < w3.heap.size := k0.lt
  have y1 : w.heap.size + 1 < w3.heap.size := k1.lt
  have HF := Lib.hid (And.intro k0 (And.intro k1 (And.intro r0 (And.intro m0 (And.intro n0 (And.intro o1 o2))))))
  have IA := Lib.hid ia
  have IA' := Lib.hid ia'
  clear k0 k1 r0 m0 n0 o1 o2 ia ia' hb2 hb3
  go_wp2_with fail
  obtain ⟨k0, k1, r0, m0, n0, o1, o2⟩ := HF.out
  refine at_call (fun W => (Below w.heap.size w W ∧ Cells W w.heap.size [.slice A s.hs.length c, .slice A' s.ws.length c'] ∧ Cells W (w.heap.size + 1) [.int .u8 what, .int .i64 t, .int .i64 l] ∧ Cells W (w.heap.size + 2) [.slice none 0 0, .slice none 0 0] ∧ Cells W w1.heap.size [.slice A1 s.hs.length d1, .slice A2 s.ws.length d2] ∧ Cells W (w1.heap.size + 1) [.slice A s.hs.length c, .slice A' s.ws.length c'] ∧ Own intR 3 W0.heap.size W (.slice A1 s.hs.length d1) s.hs ∧ Own wtR 33 W0.heap.size W (.slice A2 s.ws.length d2) s.ws) ∧ Cells W w3.heap.size [.slice Aa (waitS s t l).1.hs.length da, .slice Aa' (waitS s t l).1.ws.length da'] ∧ Sl intR W (.slice Aa (waitS s t l).1.hs.length da) (waitS s t l).1.hs ∧ Sl wtR W (.slice Aa' (waitS s t l).1.ws.length da') (waitS s t l).1.ws)
    ⟨⟨bal HB3.out, k0.alloc _, k1.alloc _, r0.alloc _, m0.alloc _, n0.alloc _, o1.up (ba _ _), o2.up (ba _ _)⟩, Cells.new _ _ _, IA.out.up (ba _ _), IA'.out.up (ba _ _)⟩ fun W4 ⟨⟨hb4, k0, k1, r0, m0, n0, o1, o2⟩, q0, ia, ia'⟩ => ?_
  refine (rwait_any _ _ s t l W4 (HS1.out.up hb4) (HS2.out.up hb4) bt).mono fun e w5 h => ?_
  obtain ⟨Ab, db, Ab', db', rfl, ib, ib', hb5⟩ := st_form (s' := (waitS s t l).1) (e0 := (waitS s t l).2) rfl h
  clear h
  replace k0 := k0.later hb5
  replace k1 := k1.later hb5
  replace r0 := r0.later hb5
  replace m0 := m0.later hb5
  replace n0 := n0.later hb5
  replace o1 := o1.up hb5
  replace o2 := o2.up hb5
  replace q0 := q0.later hb5
  replace ia := ia.up hb5
  replace ia' := ia'.up hb5
  have HB5 := Lib.hid (hb4.trans (hb5.mono hb4.size))
  have y3 : w1.heap.size + 1 < w5.heap.size := n0.lt
  have HF := Lib.hid (And.intro k0 (And.intro k1 (And.intro r0 (And.intro m0 (And.intro n0 (And.intro o1 (And.intro o2 (And.intro q0 (And.intro ia (And.intro ia' (And.intro ib ib')))))))))))
  clear k0 k1 r0 m0 n0 o1 o2 ia ia' ib ib' hb4 hb5 q0 c0 c1 b0 b1 b2 y0 y1
  go_wp2_with fail
  obtain ⟨k0, k1, r0, m0, n0, o1, o2, q0, ia, ia', ib, ib'⟩ := HF.out
  refine at_world (fun W => (Below w.heap.size w W ∧ Cells W w.heap.size [.slice A s.hs.length c, .slice A' s.ws.length c'] ∧ Cells W (w.heap.size + 1) [.int .u8 what, .int .i64 t, .int .i64 l] ∧ Cells W (w.heap.size + 2) [.slice none 0 0, .slice none 0 0] ∧ Cells W w1.heap.size [.slice A1 s.hs.length d1, .slice A2 s.ws.length d2] ∧ Cells W (w1.heap.size + 1) [.slice A s.hs.length c, .slice A' s.ws.length c'] ∧ Own intR 3 W0.heap.size W (.slice A1 s.hs.length d1) s.hs ∧ Own wtR 33 W0.heap.size W (.slice A2 s.ws.length d2) s.ws) ∧ Cells W w3.heap.size [.slice Aa (waitS s t l).1.hs.length da, .slice Aa' (waitS s t l).1.ws.length da'] ∧ Sl intR W (.slice Aa (waitS s t l).1.hs.length da) (waitS s t l).1.hs ∧ Sl wtR W (.slice Aa' (waitS s t l).1.ws.length da') (waitS s t l).1.ws ∧
      Cells W w5.heap.size [.slice Ab (waitS s t l).1.hs.length db, .slice Ab' (waitS s t l).1.ws.length db'] ∧ Sl intR W (.slice Ab (waitS s t l).1.hs.length db) (waitS s t l).1.hs ∧ Sl wtR W (.slice Ab' (waitS s t l).1.ws.length db') (waitS s t l).1.ws)
    ⟨⟨bal HB5.out, k0.alloc _, k1.alloc _, r0.alloc _, m0.alloc _, n0.alloc _, o1.up (ba _ _), o2.up (ba _ _)⟩, q0.alloc _, ia.up (ba _ _), ia'.up (ba _ _), Cells.new _ _ _, ib.up (ba _ _), ib'.up (ba _ _)⟩ fun W6 ⟨⟨hb6, k0, k1, r0, m0, n0, o1, o2⟩, q0, ia, ia', p0, ib, ib'⟩ => ?_
  have hsame : sameS (waitS s t l).1 (waitS s t l).1 = true := by simp [sameS]
  have C9 := Lib.hid (fun W j1 j2 j3 j4 => hsame ▸ same_any (.slice Aa (waitS s t l).1.hs.length da) (.slice Aa' (waitS s t l).1.ws.length da') (.slice Ab (waitS s t l).1.hs.length db) (.slice Ab' (waitS s t l).1.ws.length db') (waitS s t l).1 (waitS s t l).1 W j1 j2 j3 j4)
  have JA := Lib.hid (And.intro (And.intro ia ia') (And.intro ib ib'))
  have a0 := q0.c 0 _ rfl
  have a1 := q0.c 1 _ rfl
  have e0 := p0.c 0 _ rfl
  have e1 := p0.c 1 _ rfl
  have u0 := n0.c 0 _ rfl
  have u1 := n0.c 1 _ rfl
  have g0 := n0.f 0
  have g1 := n0.f 1
  have ne1 : w1.heap.size + 1 ≠ w3.heap.size := by omega
  have ne2 : w1.heap.size + 1 ≠ w5.heap.size := by omega
  have HF2 := Lib.hid (And.intro k0 (And.intro k1 (And.intro r0 (And.intro m0 (And.intro n0 (And.intro o1 (And.intro o2 (And.intro ia ia'))))))))
  have HB6 := Lib.hid hb6
  clear HF k0 k1 r0 m0 n0 o1 o2 q0 ia ia' p0 ib ib' hb6 hsame
  go_region_held3 (fun W => W.cell? ⟨w3.heap.size, 0, none⟩ = some (.slice Aa (waitS s t l).1.hs.length da) ∧ W.cell? ⟨w3.heap.size, 1, none⟩ = some (.slice Aa' (waitS s t l).1.ws.length da') ∧ W.cell? ⟨w5.heap.size, 0, none⟩ = some (.slice Ab (waitS s t l).1.hs.length db) ∧ W.cell? ⟨w5.heap.size, 1, none⟩ = some (.slice Ab' (waitS s t l).1.ws.length db'))
    (exact ⟨by first | assumption | go_simp, by first | assumption | go_simp, by first | assumption | go_simp, by first | assumption | go_simp⟩)
    (first
      | (go_at_call 23; refine (C9.out _ (by first | exact JA.out.1.1.up (bdd (Below.refl _ _)) | exact (sl_putI JA.out.1.1 u0 u1).up (bdd (Below.refl _ _)) | exact sl_putI JA.out.1.1 u0 u1 | exact JA.out.1.1 | fail) (by first | exact JA.out.1.2.up (bdd (Below.refl _ _)) | exact (sl_putW JA.out.1.2 u0 u1).up (bdd (Below.refl _ _)) | exact sl_putW JA.out.1.2 u0 u1 | exact JA.out.1.2 | fail) (by first | exact JA.out.2.1.up (bdd (Below.refl _ _)) | exact (sl_putI JA.out.2.1 u0 u1).up (bdd (Below.refl _ _)) | exact sl_putI JA.out.2.1 u0 u1 | exact JA.out.2.1 | fail) (by first | exact JA.out.2.2.up (bdd (Below.refl _ _)) | exact (sl_putW JA.out.2.2 u0 u1).up (bdd (Below.refl _ _)) | exact sl_putW JA.out.2.2 u0 u1 | exact JA.out.2.2 | fail)).mono ?_; rintro e w9 ⟨rfl, hb9⟩; have a09 : w9.cell? ⟨w3.heap.size, 0, none⟩ = _ := cell_later hb9 (by first | exact a0 | go_simp); have a19 : w9.cell? ⟨w3.heap.size, 1, none⟩ = _ := cell_later hb9 (by first | exact a1 | go_simp); have e09 : w9.cell? ⟨w5.heap.size, 0, none⟩ = _ := cell_later hb9 (by first | exact e0 | go_simp); have e19 : w9.cell? ⟨w5.heap.size, 1, none⟩ = _ := cell_later hb9 (by first | exact e1 | go_simp); (first | (have u09 := cell_later hb9 (show _ from u0); have u19 := cell_later hb9 (show _ from u1); have g09 := free_later hb9 u0 g0; have g19 := free_later hb9 u1 g1) | skip))
      | fail)
  obtain ⟨k0, k1, r0, m0, n0, o1, o2, ia, ia'⟩ := HF2.out
  have hb9' : Below W6.heap.size W6 w9 := (bdd (Below.refl _ _)).trans hb9
  have hz1 := k0.lt
  obtain ⟨n9, hg9⟩ := (n0.later hb9').put2 (.slice Aa (waitS s t l).1.hs.length da) (.slice Aa' (waitS s t l).1.ws.length da')
  have hbw : Below w.heap.size w w9 := HB6.out.trans (hb9'.mono HB6.out.size)
  refine at_world (fun W => Below w.heap.size w W ∧ Cells W w.heap.size [.slice A s.hs.length c, .slice A' s.ws.length c'] ∧ Cells W (w.heap.size + 2) [.slice none 0 0, .slice none 0 0] ∧ Cells W w1.heap.size [.slice A1 s.hs.length d1, .slice A2 s.ws.length d2] ∧
      Cells W (w1.heap.size + 1) [.slice Aa (waitS s t l).1.hs.length da, .slice Aa' (waitS s t l).1.ws.length da'] ∧ Sl intR W (.slice A1 s.hs.length d1) s.hs ∧ Sl wtR W (.slice A2 s.ws.length d2) s.ws ∧ Sl intR W (.slice Aa (waitS s t l).1.hs.length da) (waitS s t l).1.hs ∧ Sl wtR W (.slice Aa' (waitS s t l).1.ws.length da') (waitS s t l).1.ws)
    ⟨hbw.grown hg9 hbw.size (fun k hk => by injection hk; omega), (k0.later hb9').grown hg9 (by simp; omega), (r0.later hb9').grown hg9 (by simp; omega), (m0.later hb9').grown hg9 (by simp), n9,
      sl_putI (o1.up hb9').sl u09 u19, sl_putW (o2.up hb9').sl u09 u19, sl_putI (ia.up hb9') u09 u19, sl_putW (ia'.up hb9') u09 u19⟩ fun W10 ⟨hb10, k0, r0, m0, n0, j1, j2, j3, j4⟩ => ?_
  have hsame : sameS s s = true := by simp [sameS]
  have C10 := Lib.hid (fun W (hb : Below W10.heap.size W10 W) => hsame ▸ same_any _ _ _ _ _ _ W (HS1.out.up (hb10.trans (hb.mono hb10.size))) (HS2.out.up (hb10.trans (hb.mono hb10.size))) (j1.up hb) (j2.up hb))
  have c0 := k0.c 0 _ rfl
  have c1 := k0.c 1 _ rfl
  have p0 := m0.c 0 _ rfl
  have p1 := m0.c 1 _ rfl
  have q0 := n0.c 0 _ rfl
  have q1 := n0.c 1 _ rfl
  have x0 := r0.c 0 _ rfl
  have x1 := r0.c 1 _ rfl
  have x2 := r0.f 0
  have x3 := r0.f 1
  have J3 := Lib.hid j3
  have J4 := Lib.hid j4
  have HB10 := Lib.hid hb10
  clear k0 r0 m0 n0 j1 j2 j3 j4 hb10 hsame HF2 JA C9 HB6 u0 u1 g0 g1 a0 a1 e0 e1 a09 a19 e09 e19 u09 u19 g09 g19 hbw hb9 hb9' n9 hg9 o1 o2 ia ia' k1
  go_wp2_with fail
  go_region_held3 (fun W => W.cell? ⟨w.heap.size, 0, none⟩ = some (.slice A s.hs.length c) ∧ W.cell? ⟨w.heap.size, 1, none⟩ = some (.slice A' s.ws.length c') ∧ W.cell? ⟨w1.heap.size, 0, none⟩ = some (.slice A1 s.hs.length d1) ∧ W.cell? ⟨w1.heap.size, 1, none⟩ = some (.slice A2 s.ws.length d2) ∧ W.cell? ⟨w1.heap.size + 1, 0, none⟩ = some (.slice Aa (waitS s t l).1.hs.length da) ∧ W.cell? ⟨w1.heap.size + 1, 1, none⟩ = some (.slice Aa' (waitS s t l).1.ws.length da'))
    (exact ⟨by first | assumption | go_simp, by first | assumption | go_simp, by first | assumption | go_simp, by first | assumption | go_simp, by first | assumption | go_simp, by first | assumption | go_simp⟩)
    (first
      | (go_at_call 23; refine (C10.out _ (by first | exact bdd (Below.refl _ _) | exact Below.refl _ _ | fail)).mono ?_; rintro e w11 ⟨rfl, hb11⟩; have c0' := cell_later hb11 (by first | exact c0 | go_simp); have c1' := cell_later hb11 (by first | exact c1 | go_simp); have p0' := cell_later hb11 (by first | exact p0 | go_simp); have p1' := cell_later hb11 (by first | exact p1 | go_simp); have q0' := cell_later hb11 (by first | exact q0 | go_simp); have q1' := cell_later hb11 (by first | exact q1 | go_simp); have x0' := cell_later hb11 (show _ from x0); have x1' := cell_later hb11 (show _ from x1); have x2' := free_later hb11 x0 x2; have x3' := free_later hb11 x1 x3)
      | fail)
  have hbX : Below W10.heap.size W10 w11 := (bdd (Below.refl _ _)).trans hb11
  go_wp2_with fail
  obtain ⟨f0, f1, hgf⟩ := put2 (a := .slice Aa (waitS s t l).1.hs.length da) (b := .slice Aa' (waitS s t l).1.ws.length da') x0' x1'
  have hbY : Below w.heap.size w w11 := HB10.out.trans (hbX.mono HB10.out.size)
  refine bodyPost_ret (v := .tuple #[.agg #[.slice Aa (waitS s t l).1.hs.length da, .slice Aa' (waitS s t l).1.ws.length da'], .bool true]) (by simp [results, Try.results20, go_sem, f0, f1]) rfl
    ⟨_, rfl, ⟨_, _, rfl, sl_putI (J3.out.up hbX) x0' x1', sl_putW (J4.out.up hbX) x0' x1'⟩, hbY.grown hgf hbY.size (fun k hk => by injection hk; omega)⟩

set_option maxHeartbeats 2000000 in
set_option maxRecDepth 100000 in
theorem do_1 (v1 v2 : Value) (s : St) (what t l : Int) (w : World) (h1 : Sl intR w v1 s.hs) (h2 : Sl wtR w v2 s.ws) (z1 : s.hs.length ≤ 1000) (z2 : s.ws.length ≤ 1000) (hw0 : 0 ≤ what) (hw1 : what ≤ 255) (bt : Bd t) (hr : what % 8 = 1) :
    Calls Try.prog 20 #[.agg #[v1, v2], .agg #[.int .u8 what, .int .i64 t, .int .i64 l]] w fun e w' => ∃ v, e = .returned (.tuple #[v, .bool true]) ∧ IsSt w' v (takeS s t l).1 ∧ Below w.heap.size w w' := by
  obtain ⟨A, c, rfl, hc, hm, h1⟩ := h1.open
  obtain ⟨A', c', rfl, _, hm', h2⟩ := h2.open
  have HS1 := Lib.hid h1
  have HS2 := Lib.hid h2
  have C0 := Lib.hid (fun W (hb : Below w.heap.size w W) => copy_any _ _ s W (h1.up hb) (h2.up hb) z1 z2)
  clear h1 h2
  have t0 : (what % 8 == 0) = false := by rw [hr]; rfl
  have t1 : (what % 8 == 1) = true := by rw [hr]; rfl
  clear hr
  go_enter Try.func20, Try.ntmps20
  go_wp2_with fail
  refine at_call (fun W => Below w.heap.size w W ∧ W.heap.size = w.heap.size + 3 ∧ Cells W w.heap.size [.slice A s.hs.length c, .slice A' s.ws.length c'] ∧ Cells W (w.heap.size + 1) [.int .u8 what, .int .i64 t, .int .i64 l] ∧ Cells W (w.heap.size + 2) [.slice none 0 0, .slice none 0 0])
    ⟨bal (bal (ba _ _)), by simp, ((Cells.new _ _ _).alloc _).alloc _, by have h := (Cells.new (w.alloc (.cells #[.slice A s.hs.length c, .slice A' s.ws.length c'] 25)) [.int .u8 what, .int .i64 t, .int .i64 l] 42).alloc (.cells #[.slice none 0 0, .slice none 0 0] 25); simpa using h, by have h := Cells.new ((w.alloc (.cells #[.slice A s.hs.length c, .slice A' s.ws.length c'] 25)).alloc (.cells #[.int .u8 what, .int .i64 t, .int .i64 l] 42)) [.slice none 0 0, .slice none 0 0] 25; simpa using h⟩ fun W0 ⟨hb0, hz, k0, k1, r0⟩ => ?_
  refine (C0.out _ hb0).mono ?_
  rintro e w1 ⟨x1, x2, rfl, ho1, ho2, hb1⟩
  obtain ⟨A1, d1, hx1, _, _, o1⟩ := ho1.form
  obtain ⟨A2, d2, hx2, _, _, o2⟩ := ho2.form
  rw [hx1, hx2]
  clear hx1 hx2
  have K0 := Lib.hid (k0.later hb1)
  have K1 := Lib.hid (k1.later hb1)
  have R0 := Lib.hid (r0.later hb1)
  have HB1 := Lib.hid (hb0.trans (hb1.mono hb0.size))
  have O1 := Lib.hid o1
  have O2 := Lib.hid o2
  have zz : w.heap.size + 3 ≤ w1.heap.size := by have := hb1.size; omega
  have c0 := K0.out.c 0 _ rfl
  have c1 := K0.out.c 1 _ rfl
  have b0 := K1.out.c 0 _ rfl
  have b1 := K1.out.c 1 _ rfl
  have b2 := K1.out.c 2 _ rfl
  have y0 : w.heap.size < w1.heap.size := by omega
  have y1 : w.heap.size + 1 < w1.heap.size := by omega
  clear hb0 hb1 k0 k1 r0 ho1 ho2 o1 o2 hz
  go_wp2_with fail
  refine at_call (fun W => Below w.heap.size w W ∧ Cells W w.heap.size [.slice A s.hs.length c, .slice A' s.ws.length c'] ∧ Cells W (w.heap.size + 1) [.int .u8 what, .int .i64 t, .int .i64 l] ∧ Cells W (w.heap.size + 2) [.slice none 0 0, .slice none 0 0] ∧
      Cells W w1.heap.size [.slice A1 s.hs.length d1, .slice A2 s.ws.length d2] ∧ Cells W (w1.heap.size + 1) [.slice A s.hs.length c, .slice A' s.ws.length c'] ∧ Own intR 3 W0.heap.size W (.slice A1 s.hs.length d1) s.hs ∧ Own wtR 33 W0.heap.size W (.slice A2 s.ws.length d2) s.ws)
    ⟨bal (bal HB1.out), (K0.out.alloc _).alloc _, (K1.out.alloc _).alloc _, (R0.out.alloc _).alloc _, (Cells.new w1 _ _).alloc _, by have h := Cells.new (w1.alloc (.cells #[.slice A1 s.hs.length d1, .slice A2 s.ws.length d2] 25)) [.slice A s.hs.length c, .slice A' s.ws.length c'] 25; simpa using h, (O1.out.up (ba _ _)).up (ba _ _), (O2.out.up (ba _ _)).up (ba _ _)⟩ fun W2 ⟨hb2, k0, k1, r0, m0, n0, o1, o2⟩ => ?_
  refine (take_any _ _ s t l W2 (HS1.out.up hb2) (HS2.out.up hb2) bt).mono fun e w3 h => ?_
  obtain ⟨Aa, da, Aa', da', rfl, ia, ia', hb3⟩ := st_form (s' := (takeS s t l).1) (e0 := (takeS s t l).2) rfl h
  clear h
  replace k0 := k0.later hb3
  replace k1 := k1.later hb3
  replace r0 := r0.later hb3
  replace m0 := m0.later hb3
  replace n0 := n0.later hb3
  replace o1 := o1.up hb3
  replace o2 := o2.up hb3
  have HB3 := Lib.hid (hb2.trans (hb3.mono hb2.size))
  have y2 : w1.heap.size + 1 < w3.heap.size := n0.lt
  have c0 := k0.c 0 _ rfl
  have c1 := k0.c 1 _ rfl
  have b0 := k1.c 0 _ rfl
  have b1 := k1.c 1 _ rfl
  have b2 := k1.c 2 _ rfl
  have y0 : w.heap.size < w3.heap.size := k0.lt
  have y1 : w.heap.size + 1 < w3.heap.size := k1.lt
  have HF := Lib.hid (And.intro k0 (And.intro k1 (And.intro r0 (And.intro m0 (And.intro n0 (And.intro o1 o2))))))
  have IA := Lib.hid ia
  have IA' := Lib.hid ia'
  clear k0 k1 r0 m0 n0 o1 o2 ia ia' hb2 hb3
  go_wp2_with fail
  obtain ⟨k0, k1, r0, m0, n0, o1, o2⟩ := HF.out
  refine at_call (fun W => (Below w.heap.size w W ∧ Cells W w.heap.size [.slice A s.hs.length c, .slice A' s.ws.length c'] ∧ Cells W (w.heap.size + 1) [.int .u8 what, .int .i64 t, .int .i64 l] ∧ Cells W (w.heap.size + 2) [.slice none 0 0, .slice none 0 0] ∧ Cells W w1.heap.size [.slice A1 s.hs.length d1, .slice A2 s.ws.length d2] ∧ Cells W (w1.heap.size + 1) [.slice A s.hs.length c, .slice A' s.ws.length c'] ∧ Own intR 3 W0.heap.size W (.slice A1 s.hs.length d1) s.hs ∧ Own wtR 33 W0.heap.size W (.slice A2 s.ws.length d2) s.ws) ∧ Cells W w3.heap.size [.slice Aa (takeS s t l).1.hs.length da, .slice Aa' (takeS s t l).1.ws.length da'] ∧ Sl intR W (.slice Aa (takeS s t l).1.hs.length da) (takeS s t l).1.hs ∧ Sl wtR W (.slice Aa' (takeS s t l).1.ws.length da') (takeS s t l).1.ws)
    ⟨⟨bal HB3.out, k0.alloc _, k1.alloc _, r0.alloc _, m0.alloc _, n0.alloc _, o1.up (ba _ _), o2.up (ba _ _)⟩, Cells.new _ _ _, IA.out.up (ba _ _), IA'.out.up (ba _ _)⟩ fun W4 ⟨⟨hb4, k0, k1, r0, m0, n0, o1, o2⟩, q0, ia, ia'⟩ => ?_
  refine (rtake_any _ _ s t l W4 (HS1.out.up hb4) (HS2.out.up hb4) bt).mono fun e w5 h => ?_
  obtain ⟨Ab, db, Ab', db', rfl, ib, ib', hb5⟩ := st_form (s' := (takeS s t l).1) (e0 := (takeS s t l).2) rfl h
  clear h
  replace k0 := k0.later hb5
  replace k1 := k1.later hb5
  replace r0 := r0.later hb5
  replace m0 := m0.later hb5
  replace n0 := n0.later hb5
  replace o1 := o1.up hb5
  replace o2 := o2.up hb5
  replace q0 := q0.later hb5
  replace ia := ia.up hb5
  replace ia' := ia'.up hb5
  have HB5 := Lib.hid (hb4.trans (hb5.mono hb4.size))
  have y3 : w1.heap.size + 1 < w5.heap.size := n0.lt
  have HF := Lib.hid (And.intro k0 (And.intro k1 (And.intro r0 (And.intro m0 (And.intro n0 (And.intro o1 (And.intro o2 (And.intro q0 (And.intro ia (And.intro ia' (And.intro ib ib')))))))))))
  clear k0 k1 r0 m0 n0 o1 o2 ia ia' ib ib' hb4 hb5 q0 c0 c1 b0 b1 b2 y0 y1
  go_wp2_with fail
  obtain ⟨k0, k1, r0, m0, n0, o1, o2, q0, ia, ia', ib, ib'⟩ := HF.out
  refine at_world (fun W => (Below w.heap.size w W ∧ Cells W w.heap.size [.slice A s.hs.length c, .slice A' s.ws.length c'] ∧ Cells W (w.heap.size + 1) [.int .u8 what, .int .i64 t, .int .i64 l] ∧ Cells W (w.heap.size + 2) [.slice none 0 0, .slice none 0 0] ∧ Cells W w1.heap.size [.slice A1 s.hs.length d1, .slice A2 s.ws.length d2] ∧ Cells W (w1.heap.size + 1) [.slice A s.hs.length c, .slice A' s.ws.length c'] ∧ Own intR 3 W0.heap.size W (.slice A1 s.hs.length d1) s.hs ∧ Own wtR 33 W0.heap.size W (.slice A2 s.ws.length d2) s.ws) ∧ Cells W w3.heap.size [.slice Aa (takeS s t l).1.hs.length da, .slice Aa' (takeS s t l).1.ws.length da'] ∧ Sl intR W (.slice Aa (takeS s t l).1.hs.length da) (takeS s t l).1.hs ∧ Sl wtR W (.slice Aa' (takeS s t l).1.ws.length da') (takeS s t l).1.ws ∧
      Cells W w5.heap.size [.slice Ab (takeS s t l).1.hs.length db, .slice Ab' (takeS s t l).1.ws.length db'] ∧ Sl intR W (.slice Ab (takeS s t l).1.hs.length db) (takeS s t l).1.hs ∧ Sl wtR W (.slice Ab' (takeS s t l).1.ws.length db') (takeS s t l).1.ws)
    ⟨⟨bal HB5.out, k0.alloc _, k1.alloc _, r0.alloc _, m0.alloc _, n0.alloc _, o1.up (ba _ _), o2.up (ba _ _)⟩, q0.alloc _, ia.up (ba _ _), ia'.up (ba _ _), Cells.new _ _ _, ib.up (ba _ _), ib'.up (ba _ _)⟩ fun W6 ⟨⟨hb6, k0, k1, r0, m0, n0, o1, o2⟩, q0, ia, ia', p0, ib, ib'⟩ => ?_
  have hsame : sameS (takeS s t l).1 (takeS s t l).1 = true := by simp [sameS]
  have C9 := Lib.hid (fun W j1 j2 j3 j4 => hsame ▸ same_any (.slice Aa (takeS s t l).1.hs.length da) (.slice Aa' (takeS s t l).1.ws.length da') (.slice Ab (takeS s t l).1.hs.length db) (.slice Ab' (takeS s t l).1.ws.length db') (takeS s t l).1 (takeS s t l).1 W j1 j2 j3 j4)
  have JA := Lib.hid (And.intro (And.intro ia ia') (And.intro ib ib'))
  have a0 := q0.c 0 _ rfl
  have a1 := q0.c 1 _ rfl
  have e0 := p0.c 0 _ rfl
  have e1 := p0.c 1 _ rfl
  have u0 := n0.c 0 _ rfl
  have u1 := n0.c 1 _ rfl
  have g0 := n0.f 0
  have g1 := n0.f 1
  have ne1 : w1.heap.size + 1 ≠ w3.heap.size := by omega
  have ne2 : w1.heap.size + 1 ≠ w5.heap.size := by omega
  have HF2 := Lib.hid (And.intro k0 (And.intro k1 (And.intro r0 (And.intro m0 (And.intro n0 (And.intro o1 (And.intro o2 (And.intro ia ia'))))))))
  have HB6 := Lib.hid hb6
  clear HF k0 k1 r0 m0 n0 o1 o2 q0 ia ia' p0 ib ib' hb6 hsame
  go_region_held3 (fun W => W.cell? ⟨w3.heap.size, 0, none⟩ = some (.slice Aa (takeS s t l).1.hs.length da) ∧ W.cell? ⟨w3.heap.size, 1, none⟩ = some (.slice Aa' (takeS s t l).1.ws.length da') ∧ W.cell? ⟨w5.heap.size, 0, none⟩ = some (.slice Ab (takeS s t l).1.hs.length db) ∧ W.cell? ⟨w5.heap.size, 1, none⟩ = some (.slice Ab' (takeS s t l).1.ws.length db'))
    (exact ⟨by first | assumption | go_simp, by first | assumption | go_simp, by first | assumption | go_simp, by first | assumption | go_simp⟩)
    (first
      | (go_at_call 23; refine (C9.out _ (by first | exact JA.out.1.1.up (bdd (Below.refl _ _)) | exact (sl_putI JA.out.1.1 u0 u1).up (bdd (Below.refl _ _)) | exact sl_putI JA.out.1.1 u0 u1 | exact JA.out.1.1 | fail) (by first | exact JA.out.1.2.up (bdd (Below.refl _ _)) | exact (sl_putW JA.out.1.2 u0 u1).up (bdd (Below.refl _ _)) | exact sl_putW JA.out.1.2 u0 u1 | exact JA.out.1.2 | fail) (by first | exact JA.out.2.1.up (bdd (Below.refl _ _)) | exact (sl_putI JA.out.2.1 u0 u1).up (bdd (Below.refl _ _)) | exact sl_putI JA.out.2.1 u0 u1 | exact JA.out.2.1 | fail) (by first | exact JA.out.2.2.up (bdd (Below.refl _ _)) | exact (sl_putW JA.out.2.2 u0 u1).up (bdd (Below.refl _ _)) | exact sl_putW JA.out.2.2 u0 u1 | exact JA.out.2.2 | fail)).mono ?_; rintro e w9 ⟨rfl, hb9⟩; have a09 : w9.cell? ⟨w3.heap.size, 0, none⟩ = _ := cell_later hb9 (by first | exact a0 | go_simp); have a19 : w9.cell? ⟨w3.heap.size, 1, none⟩ = _ := cell_later hb9 (by first | exact a1 | go_simp); have e09 : w9.cell? ⟨w5.heap.size, 0, none⟩ = _ := cell_later hb9 (by first | exact e0 | go_simp); have e19 : w9.cell? ⟨w5.heap.size, 1, none⟩ = _ := cell_later hb9 (by first | exact e1 | go_simp); (first | (have u09 := cell_later hb9 (show _ from u0); have u19 := cell_later hb9 (show _ from u1); have g09 := free_later hb9 u0 g0; have g19 := free_later hb9 u1 g1) | skip))
      | fail)
  obtain ⟨k0, k1, r0, m0, n0, o1, o2, ia, ia'⟩ := HF2.out
  have hb9' : Below W6.heap.size W6 w9 := (bdd (Below.refl _ _)).trans hb9
  have hz1 := k0.lt
  obtain ⟨n9, hg9⟩ := (n0.later hb9').put2 (.slice Aa (takeS s t l).1.hs.length da) (.slice Aa' (takeS s t l).1.ws.length da')
  have hbw : Below w.heap.size w w9 := HB6.out.trans (hb9'.mono HB6.out.size)
  refine at_world (fun W => Below w.heap.size w W ∧ Cells W w.heap.size [.slice A s.hs.length c, .slice A' s.ws.length c'] ∧ Cells W (w.heap.size + 2) [.slice none 0 0, .slice none 0 0] ∧ Cells W w1.heap.size [.slice A1 s.hs.length d1, .slice A2 s.ws.length d2] ∧
      Cells W (w1.heap.size + 1) [.slice Aa (takeS s t l).1.hs.length da, .slice Aa' (takeS s t l).1.ws.length da'] ∧ Sl intR W (.slice A1 s.hs.length d1) s.hs ∧ Sl wtR W (.slice A2 s.ws.length d2) s.ws ∧ Sl intR W (.slice Aa (takeS s t l).1.hs.length da) (takeS s t l).1.hs ∧ Sl wtR W (.slice Aa' (takeS s t l).1.ws.length da') (takeS s t l).1.ws)
    ⟨hbw.grown hg9 hbw.size (fun k hk => by injection hk; omega), (k0.later hb9').grown hg9 (by simp; omega), (r0.later hb9').grown hg9 (by simp; omega), (m0.later hb9').grown hg9 (by simp), n9,
      sl_putI (o1.up hb9').sl u09 u19, sl_putW (o2.up hb9').sl u09 u19, sl_putI (ia.up hb9') u09 u19, sl_putW (ia'.up hb9') u09 u19⟩ fun W10 ⟨hb10, k0, r0, m0, n0, j1, j2, j3, j4⟩ => ?_
  have hsame : sameS s s = true := by simp [sameS]
  have C10 := Lib.hid (fun W (hb : Below W10.heap.size W10 W) => hsame ▸ same_any _ _ _ _ _ _ W (HS1.out.up (hb10.trans (hb.mono hb10.size))) (HS2.out.up (hb10.trans (hb.mono hb10.size))) (j1.up hb) (j2.up hb))
  have c0 := k0.c 0 _ rfl
  have c1 := k0.c 1 _ rfl
  have p0 := m0.c 0 _ rfl
  have p1 := m0.c 1 _ rfl
  have q0 := n0.c 0 _ rfl
  have q1 := n0.c 1 _ rfl
  have x0 := r0.c 0 _ rfl
  have x1 := r0.c 1 _ rfl
  have x2 := r0.f 0
  have x3 := r0.f 1
  have J3 := Lib.hid j3
  have J4 := Lib.hid j4
  have HB10 := Lib.hid hb10
  clear k0 r0 m0 n0 j1 j2 j3 j4 hb10 hsame HF2 JA C9 HB6 u0 u1 g0 g1 a0 a1 e0 e1 a09 a19 e09 e19 u09 u19 g09 g19 hbw hb9 hb9' n9 hg9 o1 o2 ia ia' k1
  go_wp2_with fail
  go_region_held3 (fun W => W.cell? ⟨w.heap.size, 0, none⟩ = some (.slice A s.hs.length c) ∧ W.cell? ⟨w.heap.size, 1, none⟩ = some (.slice A' s.ws.length c') ∧ W.cell? ⟨w1.heap.size, 0, none⟩ = some (.slice A1 s.hs.length d1) ∧ W.cell? ⟨w1.heap.size, 1, none⟩ = some (.slice A2 s.ws.length d2) ∧ W.cell? ⟨w1.heap.size + 1, 0, none⟩ = some (.slice Aa (takeS s t l).1.hs.length da) ∧ W.cell? ⟨w1.heap.size + 1, 1, none⟩ = some (.slice Aa' (takeS s t l).1.ws.length da'))
    (exact ⟨by first | assumption | go_simp, by first | assumption | go_simp, by first | assumption | go_simp, by first | assumption | go_simp, by first | assumption | go_simp, by first | assumption | go_simp⟩)
    (first
      | (go_at_call 23; refine (C10.out _ (by first | exact bdd (Below.refl _ _) | exact Below.refl _ _ | fail)).mono ?_; rintro e w11 ⟨rfl, hb11⟩; have c0' := cell_later hb11 (by first | exact c0 | go_simp); have c1' := cell_later hb11 (by first | exact c1 | go_simp); have p0' := cell_later hb11 (by first | exact p0 | go_simp); have p1' := cell_later hb11 (by first | exact p1 | go_simp); have q0' := cell_later hb11 (by first | exact q0 | go_simp); have q1' := cell_later hb11 (by first | exact q1 | go_simp); have x0' := cell_later hb11 (show _ from x0); have x1' := cell_later hb11 (show _ from x1); have x2' := free_later hb11 x0 x2; have x3' := free_later hb11 x1 x3)
      | fail)
  have hbX : Below W10.heap.size W10 w11 := (bdd (Below.refl _ _)).trans hb11
  go_wp2_with fail
  obtain ⟨f0, f1, hgf⟩ := put2 (a := .slice Aa (takeS s t l).1.hs.length da) (b := .slice Aa' (takeS s t l).1.ws.length da') x0' x1'
  have hbY : Below w.heap.size w w11 := HB10.out.trans (hbX.mono HB10.out.size)
  refine bodyPost_ret (v := .tuple #[.agg #[.slice Aa (takeS s t l).1.hs.length da, .slice Aa' (takeS s t l).1.ws.length da'], .bool true]) (by simp [results, Try.results20, go_sem, f0, f1]) rfl
    ⟨_, rfl, ⟨_, _, rfl, sl_putI (J3.out.up hbX) x0' x1', sl_putW (J4.out.up hbX) x0' x1'⟩, hbY.grown hgf hbY.size (fun k hk => by injection hk; omega)⟩

end Go.Proofs.Ytgmjfmajdnoogaa
