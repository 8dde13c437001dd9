/-
  Walks of the document's answer for locks, third part (package groundlingref14): Give, Take. Conditions: as each theorem says.
-/
import Derived.Test.YtgmjfmajdnoogaaLkP
namespace Go.Proofs.Ytgmjfmajdnoogaa
open Go.RowKit

theorem drop_zero {s : St} (h : chk s = 0) : drop_ 0 s.ws = s.ws := by
  obtain ⟨_, _, _, h1, _⟩ := chk_ok h
  refine List.filter_eq_self.2 fun x hx => ?_
  have h2 : badW s.hs.length x = false := by
    cases e : badW s.hs.length x with
    | false => rfl
    | true => rw [List.any_eq_true.2 ⟨x, hx, e⟩] at h1; cases h1
  have h3 : ¬ x.task < 1 := fun h => by rw [badW_iff.2 (.inl h)] at h2; cases h2
  simp
  omega

set_option maxHeartbeats 1000000 in
theorem rgive_any (v1 v2 : Value) (s : St) (t l : Int) (w : World) (h1 : Sl intR w v1 s.hs) (h2 : Sl wtR w v2 s.ws) :
    Calls Try.prog 37 #[.agg #[v1, v2], .int .i64 t, .int .i64 l] w fun e w' => ∃ v, e = .returned (.tuple #[v, .int .i64 (giveS s t l).2]) ∧ IsSt w' v (giveS s t l).1 ∧ Below w.heap.size w w' := by
  obtain ⟨A, c, rfl, hc, hm, h1⟩ := h1.open
  obtain ⟨A', c', rfl, _, hm', h2⟩ := h2.open
  have hl : s.hs.length ≤ 9223372036854775807 := by omega
  have C1 := Lib.hid (fun W (hb : Below w.heap.size w W) => rasked_any _ _ s t l W (h1.up hb) (h2.up hb))
  have S0 := Lib.hid (fun W (hb : Below w.heap.size w W) => (show IsSt W (.agg #[.slice A s.hs.length c, .slice A' s.ws.length c']) s from ⟨_, _, rfl, h1.up hb, h2.up hb⟩))
  by_cases q1 : askd s t l = 0
  · obtain ⟨gc, _, g0, g1⟩ := askd_ok q1
    obtain ⟨z1, z2, _⟩ := chk_ok gc
    have hd0 := Lib.hid (drop_zero gc)
    obtain ⟨k, rfl⟩ := Int.eq_ofNat_of_zero_le g0
    have hk : k < s.hs.length := by omega
    have H1 := Lib.hid q1
    clear q1 g0 g1 gc
    obtain ⟨b, off, rfl, hbl, e0, _⟩ := h1.atI hk
    have hget := Lib.hid (show s.hs.getD ((k : Int).toNat) 0 = s.hs[k] by rw [Int.toNat_natCast, List.getD_eq_getElem?_getD, List.getElem?_eq_getElem hk]; rfl)
    by_cases q2 : s.hs[k] = t
    · have q2' : (s.hs[k] != t) = false := by simpa using q2
      have C2 := Lib.hid (fun W (hb : Below w.heap.size w W) => copy_any _ _ s W (h1.up hb) (h2.up hb) (by omega) (by omega))
      have hT := Lib.hid (show giveS s t (k : Int) = (⟨s.hs.set k 0, s.ws⟩, 0) by rw [giveS, if_neg (by rw [H1.out]; simp), hget.out, if_neg (by simpa using q2), Int.toNat_natCast, hd0.out])
      have H2 := Lib.hid q2
      clear q2 h1 h2
      go_enter Try.func37, Try.ntmps37
      go_wp2_with fail
      refine at_call (fun W => Below w.heap.size w W ∧ W.heap.size = w.heap.size + 2 ∧ W.cell? ⟨w.heap.size, 0, none⟩ = some (.slice (some ⟨b, off, none⟩) s.hs.length c) ∧ W.cell? ⟨w.heap.size, 1, none⟩ = some (.slice A' s.ws.length c') ∧
        W.cell? ⟨w.heap.size + 1, 0, none⟩ = some (.slice none 0 0) ∧ W.cell? ⟨w.heap.size + 1, 1, none⟩ = some (.slice none 0 0) ∧ W.frozen? ⟨w.heap.size + 1, 0, none⟩ = false ∧ W.frozen? ⟨w.heap.size + 1, 1, none⟩ = false)
        ⟨(ba _ _).alloc (by simp) _, by simp, by go_simp, by go_simp, by go_simp, by go_simp, by go_simp, by go_simp⟩ fun W0 ⟨hb0, hz, k0, k1, r0, r1, f0, f1⟩ => ?_
      refine (C1.out _ hb0).mono ?_
      rw [H1.out]
      rintro e w1 ⟨rfl, hb1⟩
      have hb1' : Below w.heap.size w w1 := hb0.trans (hb1.mono hb0.size)
      have HB1 := Lib.hid hb1'
      have HZ := Lib.hid hz
      replace k0 := cell_later hb1 k0
      replace k1 := cell_later hb1 k1
      replace f0 := free_later hb1 r0 f0
      replace f1 := free_later hb1 r1 f1
      replace r0 := cell_later hb1 r0
      replace r1 := cell_later hb1 r1
      have m0 := cell_later hb1' e0
      have hz1 : w.heap.size + 2 ≤ w1.heap.size := by have := hb1.size; omega
      clear hb0 hz hb1 hb1'
      go_wp2_with fail
      refine (C2.out _ HB1.out).mono ?_
      rintro e w2 ⟨x1, x2, rfl, ho1, ho2, hb2⟩
      obtain ⟨A1, d1, hx1, _, _, ho1'⟩ := ho1.form
      obtain ⟨A2, d2, hx2, _, _, ho2'⟩ := ho2.form
      rw [hx1, hx2]
      clear hx1 hx2
      replace k0 := cell_later hb2 k0
      replace k1 := cell_later hb2 k1
      replace f0 := free_later hb2 r0 f0
      replace f1 := free_later hb2 r1 f1
      replace r0 := cell_later hb2 r0
      replace r1 := cell_later hb2 r1
      obtain ⟨b1, hA1, hB1, hB2, n0, nf, _⟩ := ho1'.atI hk
      subst hA1
      have hq1 : w.heap.size + 1 < w2.heap.size := by omega
      have hq2 : w.heap.size + 1 < b1 := by omega
      have O1 := Lib.hid ho1'
      have O2 := Lib.hid ho2'
      have O3 := Lib.hid ho1
      have HB2 := Lib.hid hb2
      clear ho1 ho2 ho1' ho2' hb2
      go_wp2_with fail
      rw [hT.out]
      have hg1 := grownBy_set w2 b1 k (.int .i64 0)
      obtain ⟨p0, p1, hg2⟩ := put2 (a := .slice (some ⟨b1, 0, none⟩) s.hs.length d1) (b := .slice A2 s.ws.length d2) (cell_grown hg1 r0 (by simp; omega)) (cell_grown hg1 r1 (by simp; omega))
      have o1 := (O1.out.putI (x := 0) hk (by simp [Bd])).1
      have o1' := (o1.kept hg2 (fun j hj e => by have h1 := (o1.lt j hj).1; injection e with e; omega) (fun cs y h => intR_flat _ _ _ _ h)).up (ba _ (Obj.cells #[Value.slice (some { block := b1, off := 0 }) s.hs.length d1, Value.slice A2 s.ws.length d2] 25))
      have o2 := O2.out.kept hg1 (fun j hj => O2.out.apart O1.out (by decide) j hj) (fun cs y h => wtR_flat _ _ _ _ h)
      have o2' := (o2.kept hg2 (fun j hj e => by have h1 := (o2.lt j hj).1; injection e with e; omega) (fun cs y h => wtR_flat _ _ _ _ h)).up (ba _ (Obj.cells #[Value.slice (some { block := b1, off := 0 }) s.hs.length d1, Value.slice A2 s.ws.length d2] 25))
      have hbw := (((HB1.out.trans (HB2.out.mono (by omega))).grown hg1 (by omega) (fun j hj => by injection hj; omega)).grown hg2 (by simp; omega) (fun j hj => by injection hj; omega)).alloc (by simp; omega) (Obj.cells #[Value.slice (some { block := b1, off := 0 }) s.hs.length d1, Value.slice A2 s.ws.length d2] 25)
      have q0 := cell_later (ba _ (Obj.cells #[Value.slice (some { block := b1, off := 0 }) s.hs.length d1, Value.slice A2 s.ws.length d2] 25)) p0
      have q1 := cell_later (ba _ (Obj.cells #[Value.slice (some { block := b1, off := 0 }) s.hs.length d1, Value.slice A2 s.ws.length d2] 25)) p1
      refine bodyPost_ret (v := .tuple #[.agg #[.slice (some ⟨b1, 0, none⟩) s.hs.length d1, .slice A2 s.ws.length d2], .int .i64 0]) (by simp [results, Try.results37, go_sem, q0, q1]) rfl ⟨_, rfl, ⟨_, _, rfl, o1'.sl, o2'.sl⟩, hbw⟩
    · have q2' : (s.hs[k] != t) = true := by simpa using q2
      have hT := Lib.hid (show giveS s t (k : Int) = (s, 14) by rw [giveS, if_neg (by rw [H1.out]; simp), hget.out, if_pos (by simpa using q2)])
      clear q2 h1 h2
      go_enter Try.func37, Try.ntmps37
      go_wp2_with fail
      refine at_call (fun W => Below w.heap.size w W ∧ W.heap.size = w.heap.size + 2 ∧ W.cell? ⟨w.heap.size, 0, none⟩ = some (.slice (some ⟨b, off, none⟩) s.hs.length c) ∧ W.cell? ⟨w.heap.size, 1, none⟩ = some (.slice A' s.ws.length c') ∧
        W.cell? ⟨w.heap.size + 1, 0, none⟩ = some (.slice none 0 0) ∧ W.cell? ⟨w.heap.size + 1, 1, none⟩ = some (.slice none 0 0) ∧ W.frozen? ⟨w.heap.size + 1, 0, none⟩ = false ∧ W.frozen? ⟨w.heap.size + 1, 1, none⟩ = false)
        ⟨(ba _ _).alloc (by simp) _, by simp, by go_simp, by go_simp, by go_simp, by go_simp, by go_simp, by go_simp⟩ fun W0 ⟨hb0, hz, k0, k1, r0, r1, f0, f1⟩ => ?_
      refine (C1.out _ hb0).mono ?_
      rw [H1.out]
      rintro e w1 ⟨rfl, hb1⟩
      have hb1' : Below w.heap.size w w1 := hb0.trans (hb1.mono hb0.size)
      have HB1 := Lib.hid hb1'
      have HZ := Lib.hid hz
      replace k0 := cell_later hb1 k0
      replace k1 := cell_later hb1 k1
      replace f0 := free_later hb1 r0 f0
      replace f1 := free_later hb1 r1 f1
      replace r0 := cell_later hb1 r0
      replace r1 := cell_later hb1 r1
      have m0 := cell_later hb1' e0
      have hz1 : w.heap.size + 2 ≤ w1.heap.size := by have := hb1.size; omega
      clear hb0 hz hb1 hb1'
      go_wp2_with fail
      rw [hT.out]
      obtain ⟨p0, p1, hg2⟩ := put2 (a := .slice (some ⟨b, off, none⟩) s.hs.length c) (b := .slice A' s.ws.length c') r0 r1
      have hbw := HB1.out.grown hg2 (by omega) (fun j hj => by injection hj; omega)
      refine bodyPost_ret (v := .tuple #[.agg #[.slice (some ⟨b, off, none⟩) s.hs.length c, .slice A' s.ws.length c'], .int .i64 14]) (by simp [results, Try.results37, go_sem, p0, p1]) rfl ⟨_, rfl, S0.out _ hbw, hbw⟩
  · have hn : (askd s t l != 0) = true := by simpa using q1
    have hn' : (askd s t l == 0) = false := by simpa using q1
    have hT := Lib.hid (show giveS s t l = (s, askd s t l) by rw [giveS, if_pos q1])
    clear q1 h1 h2
    go_enter Try.func37, Try.ntmps37
    go_wp2_with fail
    refine at_call (fun W => Below w.heap.size w W ∧ W.heap.size = w.heap.size + 2 ∧ W.cell? ⟨w.heap.size, 0, none⟩ = some (.slice A s.hs.length c) ∧ W.cell? ⟨w.heap.size, 1, none⟩ = some (.slice A' s.ws.length c') ∧
      W.cell? ⟨w.heap.size + 1, 0, none⟩ = some (.slice none 0 0) ∧ W.cell? ⟨w.heap.size + 1, 1, none⟩ = some (.slice none 0 0) ∧ W.frozen? ⟨w.heap.size + 1, 0, none⟩ = false ∧ W.frozen? ⟨w.heap.size + 1, 1, none⟩ = false)
      ⟨(ba _ _).alloc (by simp) _, by simp, by go_simp, by go_simp, by go_simp, by go_simp, by go_simp, by go_simp⟩ fun W0 ⟨hb0, hz, k0, k1, r0, r1, f0, f1⟩ => ?_
    refine (C1.out _ hb0).mono ?_
    rintro e w1 ⟨rfl, hb1⟩
    have hb1' : Below w.heap.size w w1 := hb0.trans (hb1.mono hb0.size)
    have HB1 := Lib.hid hb1'
    have HZ := Lib.hid hz
    replace k0 := cell_later hb1 k0
    replace k1 := cell_later hb1 k1
    replace f0 := free_later hb1 r0 f0
    replace f1 := free_later hb1 r1 f1
    replace r0 := cell_later hb1 r0
    replace r1 := cell_later hb1 r1
    have hz1 : w.heap.size + 2 ≤ w1.heap.size := by have := hb1.size; omega
    clear hb0 hz hb1 hb1'
    go_wp2_with fail
    rw [hT.out]
    obtain ⟨p0, p1, hg2⟩ := put2 (a := .slice A s.hs.length c) (b := .slice A' s.ws.length c') r0 r1
    have hbw := HB1.out.grown hg2 (by omega) (fun j hj => by injection hj; omega)
    refine bodyPost_ret (v := .tuple #[.agg #[.slice A s.hs.length c, .slice A' s.ws.length c'], .int .i64 (askd s t l)]) (by simp [results, Try.results37, go_sem, p0, p1]) rfl ⟨_, rfl, S0.out _ hbw, hbw⟩


set_option maxHeartbeats 1000000 in
theorem rtake_any (v1 v2 : Value) (s : St) (t l : Int) (w : World) (h1 : Sl intR w v1 s.hs) (h2 : Sl wtR w v2 s.ws) (bt : Bd t) :
    Calls Try.prog 36 #[.agg #[v1, v2], .int .i64 t, .int .i64 l] w fun e w' => ∃ v, e = .returned (.tuple #[v, .int .i64 (takeS s t l).2]) ∧ IsSt w' v (takeS s t l).1 ∧ Below w.heap.size w w' := by
  obtain ⟨A, c, rfl, hc, hm, h1⟩ := h1.open
  obtain ⟨A', c', rfl, _, hm', h2⟩ := h2.open
  have hl : s.hs.length ≤ 9223372036854775807 := by omega
  have C1 := Lib.hid (fun W (hb : Below w.heap.size w W) => rmay_any _ _ s t l W (h1.up hb) (h2.up hb))
  have S0 := Lib.hid (fun W (hb : Below w.heap.size w W) => (show IsSt W (.agg #[.slice A s.hs.length c, .slice A' s.ws.length c']) s from ⟨_, _, rfl, h1.up hb, h2.up hb⟩))
  by_cases q1 : mayE s t l = 0
  · obtain ⟨gc, _, g0, g1⟩ := mayE_ok q1
    obtain ⟨z1, z2, _⟩ := chk_ok gc
    obtain ⟨k, rfl⟩ := Int.eq_ofNat_of_zero_le g0
    have hk : k < s.hs.length := by omega
    have H1 := Lib.hid q1
    clear q1 g0 g1 gc
    obtain ⟨b, off, rfl, hbl, e0, _⟩ := h1.atI hk
    have hget := Lib.hid (show s.hs.getD ((k : Int).toNat) 0 = s.hs[k] by rw [Int.toNat_natCast, List.getD_eq_getElem?_getD, List.getElem?_eq_getElem hk]; rfl)
    by_cases q2 : s.hs[k] = 0
    · have q2' : (s.hs[k] != 0) = false := by simpa using q2
      have C2 := Lib.hid (fun W (hb : Below w.heap.size w W) => copy_any _ _ s W (h1.up hb) (h2.up hb) (by omega) (by omega))
      have C3 := Lib.hid (fun W (hb : Below w.heap.size w W) => (without_any _ s.ws t W (h2.up hb) (by omega)).mono fun _ _ h => ownf h)
      have hT := Lib.hid (show takeS s t (k : Int) = (⟨s.hs.set k t, drop_ t s.ws⟩, 0) by rw [takeS, if_neg (by rw [H1.out]; simp), hget.out, if_neg (by simpa using q2), Int.toNat_natCast])
      have H2 := Lib.hid q2
      clear q2 h1 h2
      go_enter Try.func36, Try.ntmps36
      go_wp2_with fail
      refine at_call (fun W => Below w.heap.size w W ∧ W.heap.size = w.heap.size + 2 ∧ W.cell? ⟨w.heap.size, 0, none⟩ = some (.slice (some ⟨b, off, none⟩) s.hs.length c) ∧ W.cell? ⟨w.heap.size, 1, none⟩ = some (.slice A' s.ws.length c') ∧
        W.cell? ⟨w.heap.size + 1, 0, none⟩ = some (.slice none 0 0) ∧ W.cell? ⟨w.heap.size + 1, 1, none⟩ = some (.slice none 0 0) ∧ W.frozen? ⟨w.heap.size + 1, 0, none⟩ = false ∧ W.frozen? ⟨w.heap.size + 1, 1, none⟩ = false)
        ⟨(ba _ _).alloc (by simp) _, by simp, by go_simp, by go_simp, by go_simp, by go_simp, by go_simp, by go_simp⟩ fun W0 ⟨hb0, hz, k0, k1, r0, r1, f0, f1⟩ => ?_
      refine (C1.out _ hb0).mono ?_
      rw [H1.out]
      rintro e w1 ⟨rfl, hb1⟩
      have hb1' : Below w.heap.size w w1 := hb0.trans (hb1.mono hb0.size)
      have HB1 := Lib.hid hb1'
      have HZ := Lib.hid hz
      replace k0 := cell_later hb1 k0
      replace k1 := cell_later hb1 k1
      replace f0 := free_later hb1 r0 f0
      replace f1 := free_later hb1 r1 f1
      replace r0 := cell_later hb1 r0
      replace r1 := cell_later hb1 r1
      have m0 := cell_later hb1' e0
      have hz1 : w.heap.size + 2 ≤ w1.heap.size := by have := hb1.size; omega
      clear hb0 hz hb1 hb1'
      go_wp2_with fail
      refine (C2.out _ HB1.out).mono ?_
      rintro e w2 ⟨x1, x2, rfl, ho1, ho2, hb2⟩
      obtain ⟨A1, d1, hx1, _, _, ho1'⟩ := ho1.form
      obtain ⟨A2, d2, hx2, _, _, ho2'⟩ := ho2.form
      rw [hx1, hx2]
      clear hx1 hx2
      replace k0 := cell_later hb2 k0
      replace k1 := cell_later hb2 k1
      replace f0 := free_later hb2 r0 f0
      replace f1 := free_later hb2 r1 f1
      replace r0 := cell_later hb2 r0
      replace r1 := cell_later hb2 r1
      obtain ⟨b1, hA1, hB1, hB2, n0, nf, _⟩ := ho1'.atI hk
      subst hA1
      have hq1 : w.heap.size + 1 < w2.heap.size := by omega
      have hq2 : w.heap.size + 1 < b1 := by omega
      have hq3 : w.heap.size < w2.heap.size := by omega
      have hq4 : w.heap.size < b1 := by omega
      have O1 := Lib.hid ho1'
      have O2 := Lib.hid ho2'
      have HB2 := Lib.hid (HB1.out.trans (hb2.mono HB1.out.size))
      clear ho1 ho2 ho1' ho2' hb2 m0
      go_wp2_with fail
      have hg1 := grownBy_set w2 b1 k (.int .i64 t)
      refine at_call (fun W => Below w.heap.size w W ∧ Own intR 3 w1.heap.size W (.slice (some ⟨b1, 0, none⟩) s.hs.length d1) (s.hs.set k t) ∧ Cells W w2.heap.size [.slice (some ⟨b1, 0, none⟩) s.hs.length d1, .slice A2 s.ws.length d2] ∧
        W.cell? ⟨w.heap.size + 1, 0, none⟩ = some (.slice none 0 0) ∧ W.cell? ⟨w.heap.size + 1, 1, none⟩ = some (.slice none 0 0) ∧ W.frozen? ⟨w.heap.size + 1, 0, none⟩ = false ∧ W.frozen? ⟨w.heap.size + 1, 1, none⟩ = false)
        ⟨bal (HB2.out.grown hg1 HB2.out.size (fun j hj => by injection hj; omega)), (O1.out.putI (x := t) hk bt).1.up (ba _ _), by have h := Cells.new (w2.setCell ⟨b1, k, none⟩ (.int .i64 t)) [.slice (some ⟨b1, 0, none⟩) s.hs.length d1, .slice A2 s.ws.length d2] 25; simpa using h, by go_simp, by go_simp, by go_simp, by go_simp⟩ fun W3 ⟨hb3, o1, hc3, r0, r1, f0, f1⟩ => ?_
      refine (C3.out _ hb3).mono ?_
      rintro e w4 ⟨A3, d3, rfl, o3, hb4⟩
      replace o1 := o1.up hb4
      have hl3 := hc3.lt
      replace hc3 := hc3.later hb4
      replace f0 := free_later hb4 r0 f0
      replace f1 := free_later hb4 r1 f1
      replace r0 := cell_later hb4 r0
      replace r1 := cell_later hb4 r1
      have hz3 : w2.heap.size < W3.heap.size := hl3
      have c0 := hc3.c 0 _ rfl
      have c1 := hc3.c 1 _ rfl
      have d0 := hc3.f 1
      have z4 := hc3.lt
      have O4 := Lib.hid o1
      have O5 := Lib.hid o3
      have HB4 := Lib.hid (hb3.trans (hb4.mono hb3.size))
      clear hb3 hb4 o1 o3 hc3
      go_wp2_with fail
      rw [hT.out]
      have hgA := grownBy_set w4 w2.heap.size 1 (.slice A3 (drop_ t s.ws).length d3)
      obtain ⟨p0, p1, hg2⟩ := put2 (a := .slice (some ⟨b1, 0, none⟩) s.hs.length d1) (b := .slice A3 (drop_ t s.ws).length d3) (cell_grown hgA r0 (by simp; omega)) (cell_grown hgA r1 (by simp; omega))
      have o1 := O4.out.kept hgA (fun j hj e => by simp [Value.ownBlock] at hj e; omega) (fun cs y h => intR_flat _ _ _ _ h)
      have o1' := o1.kept hg2 (fun j hj e => by simp [Value.ownBlock] at hj e; omega) (fun cs y h => intR_flat _ _ _ _ h)
      have o3 := O5.out.kept hgA (fun j hj e => by have h1 := (O5.out.lt j hj).1; injection e with e; omega) (fun cs y h => wtR_flat _ _ _ _ h)
      have o3' := o3.kept hg2 (fun j hj e => by have h1 := (o3.lt j hj).1; injection e with e; omega) (fun cs y h => wtR_flat _ _ _ _ h)
      have hbw := (HB4.out.grown hgA HB4.out.size (fun j hj => by injection hj; omega)).grown hg2 (by simp; omega) (fun j hj => by injection hj; omega)
      refine bodyPost_ret (v := .tuple #[.agg #[.slice (some ⟨b1, 0, none⟩) s.hs.length d1, .slice A3 (drop_ t s.ws).length d3], .int .i64 0]) (by simp [results, Try.results36, go_sem, p0, p1]) rfl ⟨_, rfl, ⟨_, _, rfl, by simpa using o1'.sl, o3'.sl⟩, hbw⟩
    · have q2' : (s.hs[k] != 0) = true := by simpa using q2
      have hT := Lib.hid (show takeS s t (k : Int) = (s, 20) by rw [takeS, if_neg (by rw [H1.out]; simp), hget.out, if_pos (by simpa using q2)])
      clear q2 h1 h2
      go_enter Try.func36, Try.ntmps36
      go_wp2_with fail
      refine at_call (fun W => Below w.heap.size w W ∧ W.heap.size = w.heap.size + 2 ∧ W.cell? ⟨w.heap.size, 0, none⟩ = some (.slice (some ⟨b, off, none⟩) s.hs.length c) ∧ W.cell? ⟨w.heap.size, 1, none⟩ = some (.slice A' s.ws.length c') ∧
        W.cell? ⟨w.heap.size + 1, 0, none⟩ = some (.slice none 0 0) ∧ W.cell? ⟨w.heap.size + 1, 1, none⟩ = some (.slice none 0 0) ∧ W.frozen? ⟨w.heap.size + 1, 0, none⟩ = false ∧ W.frozen? ⟨w.heap.size + 1, 1, none⟩ = false)
        ⟨(ba _ _).alloc (by simp) _, by simp, by go_simp, by go_simp, by go_simp, by go_simp, by go_simp, by go_simp⟩ fun W0 ⟨hb0, hz, k0, k1, r0, r1, f0, f1⟩ => ?_
      refine (C1.out _ hb0).mono ?_
      rw [H1.out]
      rintro e w1 ⟨rfl, hb1⟩
      have hb1' : Below w.heap.size w w1 := hb0.trans (hb1.mono hb0.size)
      have HB1 := Lib.hid hb1'
      have HZ := Lib.hid hz
      replace k0 := cell_later hb1 k0
      replace k1 := cell_later hb1 k1
      replace f0 := free_later hb1 r0 f0
      replace f1 := free_later hb1 r1 f1
      replace r0 := cell_later hb1 r0
      replace r1 := cell_later hb1 r1
      have m0 := cell_later hb1' e0
      have hz1 : w.heap.size + 2 ≤ w1.heap.size := by have := hb1.size; omega
      clear hb0 hz hb1 hb1'
      go_wp2_with fail
      rw [hT.out]
      obtain ⟨p0, p1, hg2⟩ := put2 (a := .slice (some ⟨b, off, none⟩) s.hs.length c) (b := .slice A' s.ws.length c') r0 r1
      have hbw := HB1.out.grown hg2 (by omega) (fun j hj => by injection hj; omega)
      refine bodyPost_ret (v := .tuple #[.agg #[.slice (some ⟨b, off, none⟩) s.hs.length c, .slice A' s.ws.length c'], .int .i64 20]) (by simp [results, Try.results36, go_sem, p0, p1]) rfl ⟨_, rfl, S0.out _ hbw, hbw⟩
  · have hn : (mayE s t l != 0) = true := by simpa using q1
    have hn' : (mayE s t l == 0) = false := by simpa using q1
    have hT := Lib.hid (show takeS s t l = (s, mayE s t l) by rw [takeS, if_pos q1])
    clear q1 h1 h2
    go_enter Try.func36, Try.ntmps36
    go_wp2_with fail
    refine at_call (fun W => Below w.heap.size w W ∧ W.heap.size = w.heap.size + 2 ∧ W.cell? ⟨w.heap.size, 0, none⟩ = some (.slice A s.hs.length c) ∧ W.cell? ⟨w.heap.size, 1, none⟩ = some (.slice A' s.ws.length c') ∧
      W.cell? ⟨w.heap.size + 1, 0, none⟩ = some (.slice none 0 0) ∧ W.cell? ⟨w.heap.size + 1, 1, none⟩ = some (.slice none 0 0) ∧ W.frozen? ⟨w.heap.size + 1, 0, none⟩ = false ∧ W.frozen? ⟨w.heap.size + 1, 1, none⟩ = false)
      ⟨(ba _ _).alloc (by simp) _, by simp, by go_simp, by go_simp, by go_simp, by go_simp, by go_simp, by go_simp⟩ fun W0 ⟨hb0, hz, k0, k1, r0, r1, f0, f1⟩ => ?_
    refine (C1.out _ hb0).mono ?_
    rintro e w1 ⟨rfl, hb1⟩
    have hb1' : Below w.heap.size w w1 := hb0.trans (hb1.mono hb0.size)
    have HB1 := Lib.hid hb1'
    have HZ := Lib.hid hz
    replace k0 := cell_later hb1 k0
    replace k1 := cell_later hb1 k1
    replace f0 := free_later hb1 r0 f0
    replace f1 := free_later hb1 r1 f1
    replace r0 := cell_later hb1 r0
    replace r1 := cell_later hb1 r1
    have hz1 : w.heap.size + 2 ≤ w1.heap.size := by have := hb1.size; omega
    clear hb0 hz hb1 hb1'
    go_wp2_with fail
    rw [hT.out]
    obtain ⟨p0, p1, hg2⟩ := put2 (a := .slice A s.hs.length c) (b := .slice A' s.ws.length c') r0 r1
    have hbw := HB1.out.grown hg2 (by omega) (fun j hj => by injection hj; omega)
    refine bodyPost_ret (v := .tuple #[.agg #[.slice A s.hs.length c, .slice A' s.ws.length c'], .int .i64 (mayE s t l)]) (by simp [results, Try.results36, go_sem, p0, p1]) rfl ⟨_, rfl, S0.out _ hbw, hbw⟩
end Go.Proofs.Ytgmjfmajdnoogaa
