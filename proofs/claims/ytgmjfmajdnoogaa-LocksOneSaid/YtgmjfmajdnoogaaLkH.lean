/-
  Walk of locks.Take. Conditions: as the theorem says.
-/
import Derived.Test.YtgmjfmajdnoogaaLkG
namespace Go.Proofs.Ytgmjfmajdnoogaa
open Go.RowKit

/-- What Take answers. -/
def takeS (s : St) (t l : Int) : St × Int := if mayE s t l ≠ 0 then (s, mayE s t l) else if s.hs.getD l.toNat 0 ≠ 0 then (s, 20) else (⟨s.hs.set l.toNat t, drop_ t s.ws⟩, 0)

/-- A state as a value. -/
def IsSt (w : World) (v : Value) (s : St) : Prop := ∃ v1 v2, v = .agg #[v1, v2] ∧ Sl intR w v1 s.hs ∧ Sl wtR w v2 s.ws

theorem mayE_ok {s : St} {t l : Int} (h : mayE s t l = 0) : chk s = 0 ∧ tsk t = true ∧ 0 ≤ l ∧ l < s.hs.length := by
  unfold mayE at h
  split at h
  · contradiction
  · rename_i h0
    simp only [ne_eq, Decidable.not_not] at h0
    exact askd_ok h0

theorem chk_ok {s : St} (h : chk s = 0) : s.hs.length ≤ 64 ∧ s.ws.length ≤ 200 ∧ s.hs.any badH = false ∧ s.ws.any (badW s.hs.length) = false ∧ asc s.ws = true := by
  unfold chk at h
  split at h
  · simp at h
  · rename_i h0
    split at h
    · simp at h
    · rename_i h1
      split at h
      · simp at h
      · rename_i h2
        split at h
        · rename_i h3; exact ⟨by omega, by omega, by simpa using h1, by simpa using h2, h3⟩
        · simp at h

set_option maxHeartbeats 1000000 in
theorem take_any (v1 v2 : Value) (s : St) (t l : Int) (w : World) (h1 : Sl intR w v1 s.hs) (h2 : Sl wtR w v2 s.ws) (bt : Bd t) :
    Calls Try.prog 14 #[.agg #[v1, v2], .int .i64 t, .int .i64 l] w fun e w' => ∃ v, e = .returned (.tuple #[v, .int .i64 (takeS s t l).2]) ∧ IsSt w' v (takeS s t l).1 ∧ Below w.heap.size w w' := by
  obtain ⟨A, c, rfl, hc, hm, h1⟩ := h1.open
  obtain ⟨A', c', rfl, _, hm', h2⟩ := h2.open
  have hl : s.hs.length ≤ 9223372036854775807 := by omega
  have C1 := Lib.hid (fun W (hb : Below w.heap.size w W) => may_any _ _ s t l W (h1.up hb) (h2.up hb))
  have S0 := Lib.hid (fun W (hb : Below w.heap.size w W) => (show IsSt W (.agg #[.slice A s.hs.length c, .slice A' s.ws.length c']) s from ⟨_, _, rfl, h1.up hb, h2.up hb⟩))
  by_cases q1 : mayE s t l = 0
  · obtain ⟨gc, _, g0, g1⟩ := mayE_ok q1
    obtain ⟨z1, z2, _⟩ := chk_ok gc
    obtain ⟨k, rfl⟩ := Int.eq_ofNat_of_zero_le g0
    have hk : k < s.hs.length := by omega
    have H1 := Lib.hid q1
    clear q1 g0 g1 gc
    obtain ⟨b, off, rfl, hbl, e0, _⟩ := h1.atI hk
    have hget := Lib.hid (show s.hs.getD ((k : Int).toNat) 0 = s.hs[k] by rw [Int.toNat_natCast, List.getD_eq_getElem?_getD, List.getElem?_eq_getElem hk]; rfl)
    by_cases q2 : s.hs[k] = 0
    · have q2' : (s.hs[k] != 0) = false := by simpa using q2
      have C2 := Lib.hid (fun W (hb : Below w.heap.size w W) => clone_any _ _ s t W (h1.up hb) (h2.up hb) (by omega) (by omega))
      have hT := Lib.hid (show takeS s t (k : Int) = (⟨s.hs.set k t, drop_ t s.ws⟩, 0) by rw [takeS, if_neg (by rw [H1.out]; simp), hget.out, if_neg (by simpa using q2), Int.toNat_natCast])
      have H2 := Lib.hid q2
      clear q2 h1 h2
      go_enter Try.func14, Try.ntmps14
      go_wp2_with fail
      refine at_call (fun W => Below w.heap.size w W ∧ W.heap.size = w.heap.size + 2 ∧ W.cell? ⟨w.heap.size, 0, none⟩ = some (.slice (some ⟨b, off, none⟩) s.hs.length c) ∧ W.cell? ⟨w.heap.size, 1, none⟩ = some (.slice A' s.ws.length c') ∧
        W.cell? ⟨w.heap.size + 1, 0, none⟩ = some (.slice none 0 0) ∧ W.cell? ⟨w.heap.size + 1, 1, none⟩ = some (.slice none 0 0) ∧ W.frozen? ⟨w.heap.size + 1, 0, none⟩ = false ∧ W.frozen? ⟨w.heap.size + 1, 1, none⟩ = false)
        ⟨(ba _ _).alloc (by simp) _, by simp, by go_simp, by go_simp, by go_simp, by go_simp, by go_simp, by go_simp⟩ fun W0 ⟨hb0, hz, k0, k1, r0, r1, f0, f1⟩ => ?_
      refine (C1.out _ hb0).mono ?_
      rw [H1.out]
      rintro e w1 ⟨rfl, hb1⟩
      have hb1' : Below w.heap.size w w1 := hb0.trans (hb1.mono hb0.size)
      have HB1 := Lib.hid hb1'
      have HZ := Lib.hid hz
      replace k0 := cell_later hb1 k0
      replace k1 := cell_later hb1 k1
      replace f0 := free_later hb1 r0 f0
      replace f1 := free_later hb1 r1 f1
      replace r0 := cell_later hb1 r0
      replace r1 := cell_later hb1 r1
      have m0 := cell_later hb1' e0
      have hz1 : w.heap.size + 2 ≤ w1.heap.size := by have := hb1.size; omega
      clear hb0 hz hb1 hb1'
      go_wp2_with fail
      refine (C2.out _ HB1.out).mono ?_
      rintro e w2 ⟨x1, x2, rfl, ho1, ho2, hb2⟩
      obtain ⟨A1, d1, hx1, _, _, ho1'⟩ := ho1.form
      obtain ⟨A2, d2, hx2, _, _, ho2'⟩ := ho2.form
      rw [hx1, hx2]
      clear hx1 hx2
      replace k0 := cell_later hb2 k0
      replace k1 := cell_later hb2 k1
      replace f0 := free_later hb2 r0 f0
      replace f1 := free_later hb2 r1 f1
      replace r0 := cell_later hb2 r0
      replace r1 := cell_later hb2 r1
      obtain ⟨b1, hA1, hB1, hB2, n0, nf, _⟩ := ho1'.atI hk
      subst hA1
      have hq1 : w.heap.size + 1 < w2.heap.size := by omega
      have hq2 : w.heap.size + 1 < b1 := by omega
      have O1 := Lib.hid ho1'
      have O2 := Lib.hid ho2'
      have O3 := Lib.hid ho1
      have HB2 := Lib.hid hb2
      clear ho1 ho2 ho1' ho2' hb2
      go_wp2_with fail
      rw [hT.out]
      have hg1 := grownBy_set w2 b1 k (.int .i64 t)
      obtain ⟨p0, p1, hg2⟩ := put2 (a := .slice (some ⟨b1, 0, none⟩) s.hs.length d1) (b := .slice A2 (drop_ t s.ws).length d2) (cell_grown hg1 r0 (by simp; omega)) (cell_grown hg1 r1 (by simp; omega))
      have o1 := (O1.out.putI (x := t) hk bt).1
      have o1' := (o1.kept hg2 (fun j hj e => by have h1 := (o1.lt j hj).1; injection e with e; omega) (fun cs y h => intR_flat _ _ _ _ h)).up (ba _ (Obj.cells #[Value.slice (some { block := b1, off := 0 }) s.hs.length d1, Value.slice A2 (drop_ t s.ws).length d2] 25))
      have o2 := O2.out.kept hg1 (fun j hj => O2.out.apart O1.out (by decide) j hj) (fun cs y h => wtR_flat _ _ _ _ h)
      have o2' := (o2.kept hg2 (fun j hj e => by have h1 := (o2.lt j hj).1; injection e with e; omega) (fun cs y h => wtR_flat _ _ _ _ h)).up (ba _ (Obj.cells #[Value.slice (some { block := b1, off := 0 }) s.hs.length d1, Value.slice A2 (drop_ t s.ws).length d2] 25))
      have hbw := (((HB1.out.trans (HB2.out.mono (by omega))).grown hg1 (by omega) (fun j hj => by injection hj; omega)).grown hg2 (by simp; omega) (fun j hj => by injection hj; omega)).alloc (by simp; omega) (Obj.cells #[Value.slice (some { block := b1, off := 0 }) s.hs.length d1, Value.slice A2 (drop_ t s.ws).length d2] 25)
      have q0 := cell_later (ba _ (Obj.cells #[Value.slice (some { block := b1, off := 0 }) s.hs.length d1, Value.slice A2 (drop_ t s.ws).length d2] 25)) p0
      have q1 := cell_later (ba _ (Obj.cells #[Value.slice (some { block := b1, off := 0 }) s.hs.length d1, Value.slice A2 (drop_ t s.ws).length d2] 25)) p1
      refine bodyPost_ret (v := .tuple #[.agg #[.slice (some ⟨b1, 0, none⟩) s.hs.length d1, .slice A2 (drop_ t s.ws).length d2], .int .i64 0]) (by simp [results, Try.results14, go_sem, q0, q1]) rfl ⟨_, rfl, ⟨_, _, rfl, o1'.sl, o2'.sl⟩, hbw⟩
    · have q2' : (s.hs[k] != 0) = true := by simpa using q2
      have hT := Lib.hid (show takeS s t (k : Int) = (s, 20) by rw [takeS, if_neg (by rw [H1.out]; simp), hget.out, if_pos (by simpa using q2)])
      clear q2 h1 h2
      go_enter Try.func14, Try.ntmps14
      go_wp2_with fail
      refine at_call (fun W => Below w.heap.size w W ∧ W.heap.size = w.heap.size + 2 ∧ W.cell? ⟨w.heap.size, 0, none⟩ = some (.slice (some ⟨b, off, none⟩) s.hs.length c) ∧ W.cell? ⟨w.heap.size, 1, none⟩ = some (.slice A' s.ws.length c') ∧
        W.cell? ⟨w.heap.size + 1, 0, none⟩ = some (.slice none 0 0) ∧ W.cell? ⟨w.heap.size + 1, 1, none⟩ = some (.slice none 0 0) ∧ W.frozen? ⟨w.heap.size + 1, 0, none⟩ = false ∧ W.frozen? ⟨w.heap.size + 1, 1, none⟩ = false)
        ⟨(ba _ _).alloc (by simp) _, by simp, by go_simp, by go_simp, by go_simp, by go_simp, by go_simp, by go_simp⟩ fun W0 ⟨hb0, hz, k0, k1, r0, r1, f0, f1⟩ => ?_
      refine (C1.out _ hb0).mono ?_
      rw [H1.out]
      rintro e w1 ⟨rfl, hb1⟩
      have hb1' : Below w.heap.size w w1 := hb0.trans (hb1.mono hb0.size)
      have HB1 := Lib.hid hb1'
      have HZ := Lib.hid hz
      replace k0 := cell_later hb1 k0
      replace k1 := cell_later hb1 k1
      replace f0 := free_later hb1 r0 f0
      replace f1 := free_later hb1 r1 f1
      replace r0 := cell_later hb1 r0
      replace r1 := cell_later hb1 r1
      have m0 := cell_later hb1' e0
      have hz1 : w.heap.size + 2 ≤ w1.heap.size := by have := hb1.size; omega
      clear hb0 hz hb1 hb1'
      go_wp2_with fail
      rw [hT.out]
      obtain ⟨p0, p1, hg2⟩ := put2 (a := .slice (some ⟨b, off, none⟩) s.hs.length c) (b := .slice A' s.ws.length c') r0 r1
      have hbw := HB1.out.grown hg2 (by omega) (fun j hj => by injection hj; omega)
      refine bodyPost_ret (v := .tuple #[.agg #[.slice (some ⟨b, off, none⟩) s.hs.length c, .slice A' s.ws.length c'], .int .i64 20]) (by simp [results, Try.results14, go_sem, p0, p1]) rfl ⟨_, rfl, S0.out _ hbw, hbw⟩
  · have hn : (mayE s t l != 0) = true := by simpa using q1
    have hT := Lib.hid (show takeS s t l = (s, mayE s t l) by rw [takeS, if_pos q1])
    clear q1 h1 h2
    go_enter Try.func14, Try.ntmps14
    go_wp2_with fail
    refine at_call (fun W => Below w.heap.size w W ∧ W.heap.size = w.heap.size + 2 ∧ W.cell? ⟨w.heap.size, 0, none⟩ = some (.slice A s.hs.length c) ∧ W.cell? ⟨w.heap.size, 1, none⟩ = some (.slice A' s.ws.length c') ∧
      W.cell? ⟨w.heap.size + 1, 0, none⟩ = some (.slice none 0 0) ∧ W.cell? ⟨w.heap.size + 1, 1, none⟩ = some (.slice none 0 0) ∧ W.frozen? ⟨w.heap.size + 1, 0, none⟩ = false ∧ W.frozen? ⟨w.heap.size + 1, 1, none⟩ = false)
      ⟨(ba _ _).alloc (by simp) _, by simp, by go_simp, by go_simp, by go_simp, by go_simp, by go_simp, by go_simp⟩ fun W0 ⟨hb0, hz, k0, k1, r0, r1, f0, f1⟩ => ?_
    refine (C1.out _ hb0).mono ?_
    rintro e w1 ⟨rfl, hb1⟩
    have hb1' : Below w.heap.size w w1 := hb0.trans (hb1.mono hb0.size)
    have HB1 := Lib.hid hb1'
    have HZ := Lib.hid hz
    replace k0 := cell_later hb1 k0
    replace k1 := cell_later hb1 k1
    replace f0 := free_later hb1 r0 f0
    replace f1 := free_later hb1 r1 f1
    replace r0 := cell_later hb1 r0
    replace r1 := cell_later hb1 r1
    have hz1 : w.heap.size + 2 ≤ w1.heap.size := by have := hb1.size; omega
    clear hb0 hz hb1 hb1'
    go_wp2_with fail
    rw [hT.out]
    obtain ⟨p0, p1, hg2⟩ := put2 (a := .slice A s.hs.length c) (b := .slice A' s.ws.length c') r0 r1
    have hbw := HB1.out.grown hg2 (by omega) (fun j hj => by injection hj; omega)
    refine bodyPost_ret (v := .tuple #[.agg #[.slice A s.hs.length c, .slice A' s.ws.length c'], .int .i64 (mayE s t l)]) (by simp [results, Try.results14, go_sem, p0, p1]) rfl ⟨_, rfl, S0.out _ hbw, hbw⟩
end Go.Proofs.Ytgmjfmajdnoogaa
