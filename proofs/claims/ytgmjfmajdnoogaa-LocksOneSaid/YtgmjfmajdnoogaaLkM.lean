/-
  Walks of locks.Give and locks.New. Conditions: as each theorem says.
-/
import Derived.Test.YtgmjfmajdnoogaaLkH
import Derived.Test.YtgmjfmajdnoogaaLibC
namespace Go.Proofs.Ytgmjfmajdnoogaa
open Go.RowKit

/-- What Give answers. -/
def giveS (s : St) (t l : Int) : St × Int := if askd s t l ≠ 0 then (s, askd s t l) else if s.hs.getD l.toNat 0 ≠ t then (s, 14) else (⟨s.hs.set l.toNat 0, drop_ 0 s.ws⟩, 0)

set_option maxHeartbeats 1000000 in
theorem give_any (v1 v2 : Value) (s : St) (t l : Int) (w : World) (h1 : Sl intR w v1 s.hs) (h2 : Sl wtR w v2 s.ws) :
    Calls Try.prog 15 #[.agg #[v1, v2], .int .i64 t, .int .i64 l] w fun e w' => ∃ v, e = .returned (.tuple #[v, .int .i64 (giveS s t l).2]) ∧ IsSt w' v (giveS s t l).1 ∧ Below w.heap.size w w' := by
  obtain ⟨A, c, rfl, hc, hm, h1⟩ := h1.open
  obtain ⟨A', c', rfl, _, hm', h2⟩ := h2.open
  have hl : s.hs.length ≤ 9223372036854775807 := by omega
  have C1 := Lib.hid (fun W (hb : Below w.heap.size w W) => asked_any _ _ s t l W (h1.up hb) (h2.up hb))
  have S0 := Lib.hid (fun W (hb : Below w.heap.size w W) => (show IsSt W (.agg #[.slice A s.hs.length c, .slice A' s.ws.length c']) s from ⟨_, _, rfl, h1.up hb, h2.up hb⟩))
  by_cases q1 : askd s t l = 0
  · obtain ⟨gc, _, g0, g1⟩ := askd_ok q1
    obtain ⟨z1, z2, _⟩ := chk_ok gc
    obtain ⟨k, rfl⟩ := Int.eq_ofNat_of_zero_le g0
    have hk : k < s.hs.length := by omega
    have H1 := Lib.hid q1
    clear q1 g0 g1 gc
    obtain ⟨b, off, rfl, hbl, e0, _⟩ := h1.atI hk
    have hget := Lib.hid (show s.hs.getD ((k : Int).toNat) 0 = s.hs[k] by rw [Int.toNat_natCast, List.getD_eq_getElem?_getD, List.getElem?_eq_getElem hk]; rfl)
    by_cases q2 : s.hs[k] = t
    · have q2' : (s.hs[k] != t) = false := by simpa using q2
      have C2 := Lib.hid (fun W (hb : Below w.heap.size w W) => clone_any _ _ s 0 W (h1.up hb) (h2.up hb) (by omega) (by omega))
      have hT := Lib.hid (show giveS s t (k : Int) = (⟨s.hs.set k 0, drop_ 0 s.ws⟩, 0) by rw [giveS, if_neg (by rw [H1.out]; simp), hget.out, if_neg (by simpa using q2), Int.toNat_natCast])
      have H2 := Lib.hid q2
      clear q2 h1 h2
      go_enter Try.func15, Try.ntmps15
      go_wp2_with fail
      refine at_call (fun W => Below w.heap.size w W ∧ W.heap.size = w.heap.size + 2 ∧ W.cell? ⟨w.heap.size, 0, none⟩ = some (.slice (some ⟨b, off, none⟩) s.hs.length c) ∧ W.cell? ⟨w.heap.size, 1, none⟩ = some (.slice A' s.ws.length c') ∧
        W.cell? ⟨w.heap.size + 1, 0, none⟩ = some (.slice none 0 0) ∧ W.cell? ⟨w.heap.size + 1, 1, none⟩ = some (.slice none 0 0) ∧ W.frozen? ⟨w.heap.size + 1, 0, none⟩ = false ∧ W.frozen? ⟨w.heap.size + 1, 1, none⟩ = false)
        ⟨(ba _ _).alloc (by simp) _, by simp, by go_simp, by go_simp, by go_simp, by go_simp, by go_simp, by go_simp⟩ fun W0 ⟨hb0, hz, k0, k1, r0, r1, f0, f1⟩ => ?_
      refine (C1.out _ hb0).mono ?_
      rw [H1.out]
      rintro e w1 ⟨rfl, hb1⟩
      have hb1' : Below w.heap.size w w1 := hb0.trans (hb1.mono hb0.size)
      have HB1 := Lib.hid hb1'
      have HZ := Lib.hid hz
      replace k0 := cell_later hb1 k0
      replace k1 := cell_later hb1 k1
      replace f0 := free_later hb1 r0 f0
      replace f1 := free_later hb1 r1 f1
      replace r0 := cell_later hb1 r0
      replace r1 := cell_later hb1 r1
      have m0 := cell_later hb1' e0
      have hz1 : w.heap.size + 2 ≤ w1.heap.size := by have := hb1.size; omega
      clear hb0 hz hb1 hb1'
      go_wp2_with fail
      refine (C2.out _ HB1.out).mono ?_
      rintro e w2 ⟨x1, x2, rfl, ho1, ho2, hb2⟩
      obtain ⟨A1, d1, hx1, _, _, ho1'⟩ := ho1.form
      obtain ⟨A2, d2, hx2, _, _, ho2'⟩ := ho2.form
      rw [hx1, hx2]
      clear hx1 hx2
      replace k0 := cell_later hb2 k0
      replace k1 := cell_later hb2 k1
      replace f0 := free_later hb2 r0 f0
      replace f1 := free_later hb2 r1 f1
      replace r0 := cell_later hb2 r0
      replace r1 := cell_later hb2 r1
      obtain ⟨b1, hA1, hB1, hB2, n0, nf, _⟩ := ho1'.atI hk
      subst hA1
      have hq1 : w.heap.size + 1 < w2.heap.size := by omega
      have hq2 : w.heap.size + 1 < b1 := by omega
      have O1 := Lib.hid ho1'
      have O2 := Lib.hid ho2'
      have O3 := Lib.hid ho1
      have HB2 := Lib.hid hb2
      clear ho1 ho2 ho1' ho2' hb2
      go_wp2_with fail
      rw [hT.out]
      have hg1 := grownBy_set w2 b1 k (.int .i64 0)
      obtain ⟨p0, p1, hg2⟩ := put2 (a := .slice (some ⟨b1, 0, none⟩) s.hs.length d1) (b := .slice A2 (drop_ 0 s.ws).length d2) (cell_grown hg1 r0 (by simp; omega)) (cell_grown hg1 r1 (by simp; omega))
      have o1 := (O1.out.putI (x := 0) hk (by simp [Bd])).1
      have o1' := (o1.kept hg2 (fun j hj e => by have h1 := (o1.lt j hj).1; injection e with e; omega) (fun cs y h => intR_flat _ _ _ _ h)).up (ba _ (Obj.cells #[Value.slice (some { block := b1, off := 0 }) s.hs.length d1, Value.slice A2 (drop_ 0 s.ws).length d2] 25))
      have o2 := O2.out.kept hg1 (fun j hj => O2.out.apart O1.out (by decide) j hj) (fun cs y h => wtR_flat _ _ _ _ h)
      have o2' := (o2.kept hg2 (fun j hj e => by have h1 := (o2.lt j hj).1; injection e with e; omega) (fun cs y h => wtR_flat _ _ _ _ h)).up (ba _ (Obj.cells #[Value.slice (some { block := b1, off := 0 }) s.hs.length d1, Value.slice A2 (drop_ 0 s.ws).length d2] 25))
      have hbw := (((HB1.out.trans (HB2.out.mono (by omega))).grown hg1 (by omega) (fun j hj => by injection hj; omega)).grown hg2 (by simp; omega) (fun j hj => by injection hj; omega)).alloc (by simp; omega) (Obj.cells #[Value.slice (some { block := b1, off := 0 }) s.hs.length d1, Value.slice A2 (drop_ 0 s.ws).length d2] 25)
      have q0 := cell_later (ba _ (Obj.cells #[Value.slice (some { block := b1, off := 0 }) s.hs.length d1, Value.slice A2 (drop_ 0 s.ws).length d2] 25)) p0
      have q1 := cell_later (ba _ (Obj.cells #[Value.slice (some { block := b1, off := 0 }) s.hs.length d1, Value.slice A2 (drop_ 0 s.ws).length d2] 25)) p1
      refine bodyPost_ret (v := .tuple #[.agg #[.slice (some ⟨b1, 0, none⟩) s.hs.length d1, .slice A2 (drop_ 0 s.ws).length d2], .int .i64 0]) (by simp [results, Try.results15, go_sem, q0, q1]) rfl ⟨_, rfl, ⟨_, _, rfl, o1'.sl, o2'.sl⟩, hbw⟩
    · have q2' : (s.hs[k] != t) = true := by simpa using q2
      have hT := Lib.hid (show giveS s t (k : Int) = (s, 14) by rw [giveS, if_neg (by rw [H1.out]; simp), hget.out, if_pos (by simpa using q2)])
      clear q2 h1 h2
      go_enter Try.func15, Try.ntmps15
      go_wp2_with fail
      refine at_call (fun W => Below w.heap.size w W ∧ W.heap.size = w.heap.size + 2 ∧ W.cell? ⟨w.heap.size, 0, none⟩ = some (.slice (some ⟨b, off, none⟩) s.hs.length c) ∧ W.cell? ⟨w.heap.size, 1, none⟩ = some (.slice A' s.ws.length c') ∧
        W.cell? ⟨w.heap.size + 1, 0, none⟩ = some (.slice none 0 0) ∧ W.cell? ⟨w.heap.size + 1, 1, none⟩ = some (.slice none 0 0) ∧ W.frozen? ⟨w.heap.size + 1, 0, none⟩ = false ∧ W.frozen? ⟨w.heap.size + 1, 1, none⟩ = false)
        ⟨(ba _ _).alloc (by simp) _, by simp, by go_simp, by go_simp, by go_simp, by go_simp, by go_simp, by go_simp⟩ fun W0 ⟨hb0, hz, k0, k1, r0, r1, f0, f1⟩ => ?_
      refine (C1.out _ hb0).mono ?_
      rw [H1.out]
      rintro e w1 ⟨rfl, hb1⟩
      have hb1' : Below w.heap.size w w1 := hb0.trans (hb1.mono hb0.size)
      have HB1 := Lib.hid hb1'
      have HZ := Lib.hid hz
      replace k0 := cell_later hb1 k0
      replace k1 := cell_later hb1 k1
      replace f0 := free_later hb1 r0 f0
      replace f1 := free_later hb1 r1 f1
      replace r0 := cell_later hb1 r0
      replace r1 := cell_later hb1 r1
      have m0 := cell_later hb1' e0
      have hz1 : w.heap.size + 2 ≤ w1.heap.size := by have := hb1.size; omega
      clear hb0 hz hb1 hb1'
      go_wp2_with fail
      rw [hT.out]
      obtain ⟨p0, p1, hg2⟩ := put2 (a := .slice (some ⟨b, off, none⟩) s.hs.length c) (b := .slice A' s.ws.length c') r0 r1
      have hbw := HB1.out.grown hg2 (by omega) (fun j hj => by injection hj; omega)
      refine bodyPost_ret (v := .tuple #[.agg #[.slice (some ⟨b, off, none⟩) s.hs.length c, .slice A' s.ws.length c'], .int .i64 14]) (by simp [results, Try.results15, go_sem, p0, p1]) rfl ⟨_, rfl, S0.out _ hbw, hbw⟩
  · have hn : (askd s t l != 0) = true := by simpa using q1
    have hT := Lib.hid (show giveS s t l = (s, askd s t l) by rw [giveS, if_pos q1])
    clear q1 h1 h2
    go_enter Try.func15, Try.ntmps15
    go_wp2_with fail
    refine at_call (fun W => Below w.heap.size w W ∧ W.heap.size = w.heap.size + 2 ∧ W.cell? ⟨w.heap.size, 0, none⟩ = some (.slice A s.hs.length c) ∧ W.cell? ⟨w.heap.size, 1, none⟩ = some (.slice A' s.ws.length c') ∧
      W.cell? ⟨w.heap.size + 1, 0, none⟩ = some (.slice none 0 0) ∧ W.cell? ⟨w.heap.size + 1, 1, none⟩ = some (.slice none 0 0) ∧ W.frozen? ⟨w.heap.size + 1, 0, none⟩ = false ∧ W.frozen? ⟨w.heap.size + 1, 1, none⟩ = false)
      ⟨(ba _ _).alloc (by simp) _, by simp, by go_simp, by go_simp, by go_simp, by go_simp, by go_simp, by go_simp⟩ fun W0 ⟨hb0, hz, k0, k1, r0, r1, f0, f1⟩ => ?_
    refine (C1.out _ hb0).mono ?_
    rintro e w1 ⟨rfl, hb1⟩
    have hb1' : Below w.heap.size w w1 := hb0.trans (hb1.mono hb0.size)
    have HB1 := Lib.hid hb1'
    have HZ := Lib.hid hz
    replace k0 := cell_later hb1 k0
    replace k1 := cell_later hb1 k1
    replace f0 := free_later hb1 r0 f0
    replace f1 := free_later hb1 r1 f1
    replace r0 := cell_later hb1 r0
    replace r1 := cell_later hb1 r1
    have hz1 : w.heap.size + 2 ≤ w1.heap.size := by have := hb1.size; omega
    clear hb0 hz hb1 hb1'
    go_wp2_with fail
    rw [hT.out]
    obtain ⟨p0, p1, hg2⟩ := put2 (a := .slice A s.hs.length c) (b := .slice A' s.ws.length c') r0 r1
    have hbw := HB1.out.grown hg2 (by omega) (fun j hj => by injection hj; omega)
    refine bodyPost_ret (v := .tuple #[.agg #[.slice A s.hs.length c, .slice A' s.ws.length c'], .int .i64 (askd s t l)]) (by simp [results, Try.results15, go_sem, p0, p1]) rfl ⟨_, rfl, S0.out _ hbw, hbw⟩

/-- What New answers. -/
def newS (n : Int) : St × Int := if n < 0 ∨ 64 < n then (⟨[], []⟩, 7) else (⟨List.replicate n.toNat 0, []⟩, 0)

theorem made_ints : ∀ k : Nat, (madeCells #[Value.int .i64 0] k).toList = (List.replicate k (0 : Int)).map (Value.int .i64) := by
  intro k
  apply List.ext_getElem?
  intro i
  by_cases h : i < k <;> simp [madeCells, h, Nat.mod_one]

theorem mk_ints (k : Nat) (hk : k ≤ 1000000) (w : World) : (Instr.makeSlice 22 (.int .i64 (k : Int)) (.int .i64 (k : Int))).run Try.prog w = .ok (.slice (some ⟨w.heap.size, 0, none⟩) k k) (w.alloc (.cells (madeCells #[.int .i64 0] k) 3)) := by
  obtain ⟨i, hi, hz, hs, hb⟩ := info_parts infoI
  have h := run_make (P := Try.prog) w 22 3 i _ Try.underlying22 hi hz .i64 .i64 k k (by omega) (Int.le_refl _) (by rw [hb]; omega) (by omega)
  rw [h, hs]
  simp only [intR, Int.toNat_natCast, Nat.mul_one]
  rfl

theorem own_zeros (w : World) (k : Nat) (hk : k ≤ 1000000) : Own intR 3 w.heap.size (w.alloc (.cells (madeCells #[.int .i64 0] k) 3)) (.slice (some ⟨w.heap.size, 0, none⟩) k k) (List.replicate k 0) := by
  have h := Own.lit (R := intR) (e := 3) (B := w.heap.size) (g := w.heap.size) (n := k) (w := w) (cells := (madeCells #[Value.int .i64 0] k).toList) (xs := List.replicate k 0) rfl (Nat.le_refl _)
    (by rw [made_ints]; exact many_ints (fun x hx => by simp at hx; simp [hx, Bd])) (by simp) hk
  simpa using h

set_option maxHeartbeats 1000000 in
theorem new_any (n : Int) (w : World) :
    Calls Try.prog 18 #[.int .i64 n] w fun e w' => ∃ v, e = .returned (.tuple #[v, .int .i64 (newS n).2]) ∧ IsSt w' v (newS n).1 ∧ Below w.heap.size w w' := by
  by_cases h1 : n < 0
  · have hT := Lib.hid (show newS n = (⟨[], []⟩, 7) by rw [newS, if_pos (.inl h1)])
    go_enter Try.func18, Try.ntmps18
    go_wp2_with fail
    rw [hT.out]
    refine bodyPost_ret (v := .tuple #[.agg #[.slice none 0 0, .slice none 0 0], .int .i64 7]) (by simp [results, Try.results18, go_sem]) rfl ⟨_, rfl, ⟨_, _, rfl, Sl.none _ _, Sl.none _ _⟩, ba _ _⟩
  · by_cases h2 : 64 < n
    · have hT := Lib.hid (show newS n = (⟨[], []⟩, 7) by rw [newS, if_pos (.inr h2)])
      go_enter Try.func18, Try.ntmps18
      go_wp2_with fail
      rw [hT.out]
      refine bodyPost_ret (v := .tuple #[.agg #[.slice none 0 0, .slice none 0 0], .int .i64 7]) (by simp [results, Try.results18, go_sem]) rfl ⟨_, rfl, ⟨_, _, rfl, Sl.none _ _, Sl.none _ _⟩, ba _ _⟩
    · obtain ⟨k, rfl⟩ := Int.eq_ofNat_of_zero_le (show 0 ≤ n by omega)
      have hT := Lib.hid (show newS (k : Int) = (⟨List.replicate k 0, []⟩, 0) by rw [newS, if_neg (by omega), Int.toNat_natCast])
      have hmk := mk_ints k (by omega)
      go_enter Try.func18, Try.ntmps18
      go_wp2_with fail
      rw [hT.out]
      have ho := own_zeros (w.alloc (.cells #[.slice (some ⟨w.heap.size + 1, 0, none⟩) k k, .slice none 0 0] 25)) k (by omega)
      simp only [World.size_alloc] at ho
      refine bodyPost_ret (v := .tuple #[.agg #[.slice (some ⟨w.heap.size + 1, 0, none⟩) k k, .slice none 0 0], .int .i64 0]) (by simp [results, Try.results18, go_sem]) rfl ⟨_, rfl, ⟨_, _, rfl, ho.sl, Sl.none _ _⟩, (ba _ _).alloc (by simp) _⟩
end Go.Proofs.Ytgmjfmajdnoogaa
