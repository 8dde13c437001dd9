/-
  Walk of locks.Wait. Conditions: as the theorem says.
-/
import Derived.Test.YtgmjfmajdnoogaaLkX
namespace Go.Proofs.Ytgmjfmajdnoogaa
open Go.RowKit

/-- A wait put in ahead of the first task that is not less. -/
def ins (t l : Int) (xs : List Wt) : List Wt := xs.takeWhile (fun x => decide (x.task < t)) ++ [⟨t, l⟩] ++ xs.dropWhile (fun x => decide (x.task < t))
/-- What Wait answers. -/
def waitS (s : St) (t l : Int) : St × Int := if mayE s t l ≠ 0 then (s, mayE s t l) else (⟨s.hs, ins t l (drop_ t s.ws)⟩, 0)

theorem while_of {α : Type} {p : α → Bool} : ∀ {xs : List α} {k : Nat}, k ≤ xs.length → (∀ j, (hj : j < xs.length) → j < k → p xs[j] = true) → ((h : k < xs.length) → p xs[k] = false) → xs.takeWhile p = xs.take k ∧ xs.dropWhile p = xs.drop k
  | [], k, _, _, _ => by simp
  | x :: xs, 0, _, _, h => by
    have h0 : p x = false := h (by simp)
    simp [h0]
  | x :: xs, k + 1, hk, hlo, h => by
    have h0 : p x = true := hlo 0 (by simp) (by omega)
    obtain ⟨h1, h2⟩ := while_of (xs := xs) (k := k) (by simpa using hk) (fun j hj hjk => hlo (j + 1) (by simpa using hj) (by omega)) (fun h' => h (by simpa using h'))
    simp [h0, h1, h2]

theorem ins_of {t l : Int} {xs : List Wt} {k : Nat} (hk : k ≤ xs.length) (hlo : ∀ j, (hj : j < xs.length) → j < k → xs[j].task < t) (hhi : (h : k < xs.length) → ¬ xs[k].task < t) : ins t l xs = xs.take k ++ [⟨t, l⟩] ++ xs.drop k := by
  obtain ⟨h1, h2⟩ := while_of (p := fun x : Wt => decide (x.task < t)) hk (fun j hj hjk => by simpa using hlo j hj hjk) (fun h => by simpa using hhi h)
  rw [ins, h1, h2]

theorem asc_pw {l : List Wt} (h : asc l = true) : l.Pairwise (fun a b => a.task < b.task) := List.pairwise_iff_getElem.2 fun i j _ hj hij => asc_lt h i j hij hj
theorem pw_asc {l : List Wt} (h : l.Pairwise (fun a b => a.task < b.task)) : asc l = true := asc_true fun j hj => List.pairwise_iff_getElem.1 h j (j + 1) (by omega) hj (by omega)
theorem asc_drop {l : List Wt} {t : Int} (h : asc l = true) : asc (drop_ t l) = true := pw_asc ((asc_pw h).filter _)
theorem drop_bd {s : St} {t l : Int} (h : mayE s t l = 0) : ∀ x, x ∈ drop_ t s.ws → 0 ≤ x.task ∧ x.task ≤ 1000 := fun x hx => by
  obtain ⟨j, hj, rfl⟩ := List.getElem_of_mem (List.mem_filter.1 hx).1
  have := tsk_bd (lock_in (mayE_ok h).1 hj).1
  omega

set_option maxHeartbeats 1000000 in
theorem wait_any (v1 v2 : Value) (s : St) (t l : Int) (w : World) (h1 : Sl intR w v1 s.hs) (h2 : Sl wtR w v2 s.ws) (bt : Bd t) :
    Calls Try.prog 34 #[.agg #[v1, v2], .int .i64 t, .int .i64 l] w fun e w' => ∃ v, e = .returned (.tuple #[v, .int .i64 (waitS s t l).2]) ∧ IsSt w' v (waitS s t l).1 ∧ Below w.heap.size w w' := by
  obtain ⟨A, c, rfl, hc, hm, h1⟩ := h1.open
  obtain ⟨A', c', rfl, _, hm', h2⟩ := h2.open
  have hl : s.hs.length ≤ 9223372036854775807 := by omega
  have C1 := Lib.hid (fun W (hb : Below w.heap.size w W) => may_any _ _ s t l W (h1.up hb) (h2.up hb))
  have S0 := Lib.hid (fun W (hb : Below w.heap.size w W) => (show IsSt W (.agg #[.slice A s.hs.length c, .slice A' s.ws.length c']) s from ⟨_, _, rfl, h1.up hb, h2.up hb⟩))
  by_cases q1 : mayE s t l = 0
  · obtain ⟨gc, gt, g0, g1⟩ := mayE_ok q1
    obtain ⟨z1, z2, _, _, gs⟩ := chk_ok gc
    have gtb := tsk_bd gt
    obtain ⟨k, rfl⟩ := Int.eq_ofNat_of_zero_le g0
    have hk : k < s.hs.length := by omega
    have H1 := Lib.hid q1
    clear g0 g1 gt
    have hsrt := Lib.hid (asc_drop (t := t) gs)
    have hbds := Lib.hid (drop_bd (t := t) q1)
    clear q1 gs
    have C2 := Lib.hid (fun W (hb : Below w.heap.size w W) => clone_any _ _ s t W (h1.up hb) (h2.up hb) (by omega) (by omega))
    have hT := Lib.hid (show waitS s t (k : Int) = (⟨s.hs, ins t k (drop_ t s.ws)⟩, 0) by rw [waitS, if_neg (by rw [H1.out]; simp)])
    have hdl := drop_len t s.ws
    clear h1 h2
    go_enter Try.func34, Try.ntmps34
    go_wp2_with fail
    refine at_call (fun W => Below w.heap.size w W ∧ W.heap.size = w.heap.size + 2 ∧ W.cell? ⟨w.heap.size, 0, none⟩ = some (.slice A s.hs.length c) ∧ W.cell? ⟨w.heap.size, 1, none⟩ = some (.slice A' s.ws.length c') ∧
      W.cell? ⟨w.heap.size + 1, 0, none⟩ = some (.slice none 0 0) ∧ W.cell? ⟨w.heap.size + 1, 1, none⟩ = some (.slice none 0 0) ∧ W.frozen? ⟨w.heap.size + 1, 0, none⟩ = false ∧ W.frozen? ⟨w.heap.size + 1, 1, none⟩ = false)
      ⟨(ba _ _).alloc (by simp) _, by simp, by go_simp, by go_simp, by go_simp, by go_simp, by go_simp, by go_simp⟩ fun W0 ⟨hb0, hz, k0, k1, r0, r1, f0, f1⟩ => ?_
    refine (C1.out _ hb0).mono ?_
    rw [H1.out]
    rintro e w1 ⟨rfl, hb1⟩
    have hb1' : Below w.heap.size w w1 := hb0.trans (hb1.mono hb0.size)
    have HB1 := Lib.hid hb1'
    replace k0 := cell_later hb1 k0
    replace k1 := cell_later hb1 k1
    replace f0 := free_later hb1 r0 f0
    replace f1 := free_later hb1 r1 f1
    replace r0 := cell_later hb1 r0
    replace r1 := cell_later hb1 r1
    have hz1 : w.heap.size + 2 ≤ w1.heap.size := by have := hb1.size; omega
    clear hb0 hz hb1 hb1'
    go_wp2_with fail
    refine (C2.out _ HB1.out).mono ?_
    rintro e w2 ⟨x1, x2, rfl, ho1, ho2, hb2⟩
    obtain ⟨A1, d1, hx1, _, _, ho1'⟩ := ho1.form
    obtain ⟨A2, d2, hx2, _, _, ho2'⟩ := ho2.form
    rw [hx1, hx2]
    clear hx1 hx2
    replace f0 := free_later hb2 r0 f0
    replace f1 := free_later hb2 r1 f1
    replace r0 := cell_later hb2 r0
    replace r1 := cell_later hb2 r1
    have hq1 : w.heap.size + 1 < w2.heap.size := by have := hb2.size; omega
    have O1 := Lib.hid ho1'
    have O2 := Lib.hid ho2'
    have HB2 := Lib.hid (HB1.out.trans (hb2.mono HB1.out.size))
    have z12 : w1.heap.size ≤ w2.heap.size := hb2.size
    have HL2 := Lib.hid ho2'.lt
    have HL1 := Lib.hid (fun j hj => (ho1'.lt j hj).2)
    clear ho1 ho2 ho1' ho2' hb2 k0 k1
    go_wp2_with fail
    refine at_call (fun W => Below w.heap.size w W ∧ Own intR 3 w1.heap.size W (.slice A1 s.hs.length d1) s.hs ∧ Own wtR 33 w1.heap.size W (.slice A2 (drop_ t s.ws).length d2) (drop_ t s.ws) ∧ Cells W w2.heap.size [.slice A1 s.hs.length d1, .slice A2 (drop_ t s.ws).length d2] ∧
      W.cell? ⟨w.heap.size + 1, 0, none⟩ = some (.slice none 0 0) ∧ W.cell? ⟨w.heap.size + 1, 1, none⟩ = some (.slice none 0 0) ∧ W.frozen? ⟨w.heap.size + 1, 0, none⟩ = false ∧ W.frozen? ⟨w.heap.size + 1, 1, none⟩ = false)
      ⟨bal HB2.out, O1.out.up (ba _ _), O2.out.up (ba _ _), Cells.new _ _ _, by go_simp, by go_simp, by go_simp, by go_simp⟩ fun W3 ⟨hb3, o1, o2, hc3, r0, r1, f0, f1⟩ => ?_
    refine (search_any _ (drop_ t s.ws) t W3 o2.sl (by omega) (by omega) (by omega) hbds.out hsrt.out).mono ?_
    rintro e w4 ⟨at_, fnd, rfl, hat, hlo, hhi, hb4⟩
    have hins := Lib.hid (ins_of (t := t) (l := k) hat hlo fun h => by have := hhi at_ h (Nat.le_refl _); omega)
    have HB4 := Lib.hid (hb3.trans (hb4.mono hb3.size))
    have O3 := Lib.hid (o1.up hb4)
    have O4 := Lib.hid (o2.up hb4)
    have HC4 := Lib.hid (hc3.later hb4)
    have c0 := HC4.out.c 0 _ rfl
    have c1 := HC4.out.c 1 _ rfl
    have z4 := HC4.out.lt
    replace f0 := free_later hb4 r0 f0
    replace f1 := free_later hb4 r1 f1
    replace r0 := cell_later hb4 r0
    replace r1 := cell_later hb4 r1
    clear hb3 hb4 o1 o2 hc3 hlo hhi O1 O2
    go_wp2_with fail
    refine at_call (fun W => Below w.heap.size w W ∧ Own intR 3 w1.heap.size W (.slice A1 s.hs.length d1) s.hs ∧ Own wtR 33 w1.heap.size W (.slice A2 (drop_ t s.ws).length d2) (drop_ t s.ws) ∧ Cells W w2.heap.size [.slice A1 s.hs.length d1, .slice A2 (drop_ t s.ws).length d2] ∧
      W.cell? ⟨w.heap.size + 1, 0, none⟩ = some (.slice none 0 0) ∧ W.cell? ⟨w.heap.size + 1, 1, none⟩ = some (.slice none 0 0) ∧ W.frozen? ⟨w.heap.size + 1, 0, none⟩ = false ∧ W.frozen? ⟨w.heap.size + 1, 1, none⟩ = false ∧ W.heap[w4.heap.size]? = some (.cells #[.int .i64 t, .int .i64 (k : Int)] 33 (0, 0)))
      ⟨bal HB4.out, O3.out.up (ba _ _), O4.out.up (ba _ _), HC4.out.alloc _, cell_later (ba _ _) r0, cell_later (ba _ _) r1, free_later (ba _ _) r0 f0, free_later (ba _ _) r1 f1, heap_alloc_new _ _⟩ fun W5 ⟨hb5, o1, o2, hc5, r0, r1, f0, f1, hv5⟩ => ?_
    have hne : (Value.slice A2 (drop_ t s.ws).length d2).ownBlock ≠ some w4.heap.size := fun e => Nat.lt_irrefl _ (O4.out.lt _ e).2
    have hne2 : (Value.slice A2 (drop_ t s.ws).length d2).ownBlock ≠ some w2.heap.size := fun e => Nat.lt_irrefl _ (HL2.out _ e).2
    refine (insert_any _ (drop_ t s.ws) ⟨t, k⟩ at_ w1.heap.size w4.heap.size W5 o2 hat (by omega) hv5 hne bt (by show Bd (k : Int); unfold Bd; omega) (by have := hc5.lt; omega)).mono ?_
    rintro e w6 ⟨v6, rfl, o6, hg6, ho6⟩
    have HL6 := Lib.hid (show ∀ j, v6.ownBlock = some j → j ≠ w2.heap.size from fun j hj e => by
      rcases ho6 with h | h
      · exact hne2 (by rw [← h, hj, e])
      · rw [hj] at h; injection h with h; have := hc5.lt; omega)
    obtain ⟨A6, d6, hv6, _, _, o6⟩ := o6.form
    rw [hv6] at HL6 ⊢
    clear hv6 ho6
    rw [← hins.out] at o6 HL6 ⊢
    have o1' := o1.kept hg6 (fun j hj => o1.apart o2 (by decide) j hj) (fun cs y h => intR_flat _ _ _ _ h)
    have hc6 := hc5.grown hg6 hne2
    have n0 : (Value.slice A2 (drop_ t s.ws).length d2).ownBlock ≠ some (w.heap.size + 1) := fun e => by have := (o2.lt _ e).1; omega
    replace f0 := free_grown hg6 r0 f0 n0
    replace f1 := free_grown hg6 r1 f1 n0
    replace r0 := cell_grown hg6 r0 n0
    replace r1 := cell_grown hg6 r1 n0
    have hb6 := hb5.grown hg6 hb5.size (fun j hj => by have := (o2.lt _ hj).1; omega)
    have c0 := hc6.c 0 _ rfl
    have c1 := hc6.c 1 _ rfl
    have d1' := hc6.f 1
    have z6 := hc6.lt
    have O5 := Lib.hid o1'
    have O6 := Lib.hid o6
    have HB6 := Lib.hid hb6
    clear o1 o2 o6 o1' hc5 hc6 hb5 hb6 hg6 hv5 hne hne2 n0
    go_wp2_with fail
    rw [hT.out]
    have hgA := grownBy_set w6 w2.heap.size 1 (.slice A6 (ins t k (drop_ t s.ws)).length d6)
    obtain ⟨p0, p1, hg2⟩ := put2 (a := .slice A1 s.hs.length d1) (b := .slice A6 (ins t k (drop_ t s.ws)).length d6) (cell_grown hgA r0 (by simp; omega)) (cell_grown hgA r1 (by simp; omega))
    have o1 := O5.out.kept hgA (fun j hj e => by have h1 := HL1.out _ hj; injection e with e; omega) (fun cs y h => intR_flat _ _ _ _ h)
    have o1' := o1.kept hg2 (fun j hj e => by have h1 := (o1.lt j hj).1; injection e with e; omega) (fun cs y h => intR_flat _ _ _ _ h)
    have o3 := O6.out.kept hgA (fun j hj e => by have h1 := HL6.out _ hj; injection e with e; omega) (fun cs y h => wtR_flat _ _ _ _ h)
    have o3' := o3.kept hg2 (fun j hj e => by have h1 := (o3.lt j hj).1; injection e with e; omega) (fun cs y h => wtR_flat _ _ _ _ h)
    have hbw := (HB6.out.grown hgA HB6.out.size (fun j hj => by injection hj; omega)).grown hg2 (by simp; omega) (fun j hj => by injection hj; omega)
    refine bodyPost_ret (v := .tuple #[.agg #[.slice A1 s.hs.length d1, .slice A6 (ins t k (drop_ t s.ws)).length d6], .int .i64 0]) (by simp [results, Try.results34, go_sem, p0, p1]) rfl ⟨_, rfl, ⟨_, _, rfl, o1'.sl, o3'.sl⟩, hbw⟩
  · have hn : (mayE s t l != 0) = true := by simpa using q1
    have hT := Lib.hid (show waitS s t l = (s, mayE s t l) by rw [waitS, if_pos q1])
    clear q1 h1 h2
    go_enter Try.func34, Try.ntmps34
    go_wp2_with fail
    refine at_call (fun W => Below w.heap.size w W ∧ W.heap.size = w.heap.size + 2 ∧ W.cell? ⟨w.heap.size, 0, none⟩ = some (.slice A s.hs.length c) ∧ W.cell? ⟨w.heap.size, 1, none⟩ = some (.slice A' s.ws.length c') ∧
      W.cell? ⟨w.heap.size + 1, 0, none⟩ = some (.slice none 0 0) ∧ W.cell? ⟨w.heap.size + 1, 1, none⟩ = some (.slice none 0 0) ∧ W.frozen? ⟨w.heap.size + 1, 0, none⟩ = false ∧ W.frozen? ⟨w.heap.size + 1, 1, none⟩ = false)
      ⟨(ba _ _).alloc (by simp) _, by simp, by go_simp, by go_simp, by go_simp, by go_simp, by go_simp, by go_simp⟩ fun W0 ⟨hb0, hz, k0, k1, r0, r1, f0, f1⟩ => ?_
    refine (C1.out _ hb0).mono ?_
    rintro e w1 ⟨rfl, hb1⟩
    have hb1' : Below w.heap.size w w1 := hb0.trans (hb1.mono hb0.size)
    have HB1 := Lib.hid hb1'
    have HZ := Lib.hid hz
    replace k0 := cell_later hb1 k0
    replace k1 := cell_later hb1 k1
    replace f0 := free_later hb1 r0 f0
    replace f1 := free_later hb1 r1 f1
    replace r0 := cell_later hb1 r0
    replace r1 := cell_later hb1 r1
    have hz1 : w.heap.size + 2 ≤ w1.heap.size := by have := hb1.size; omega
    clear hb0 hz hb1 hb1'
    go_wp2_with fail
    rw [hT.out]
    obtain ⟨p0, p1, hg2⟩ := put2 (a := .slice A s.hs.length c) (b := .slice A' s.ws.length c') r0 r1
    have hbw := HB1.out.grown hg2 (by omega) (fun j hj => by injection hj; omega)
    refine bodyPost_ret (v := .tuple #[.agg #[.slice A s.hs.length c, .slice A' s.ws.length c'], .int .i64 (mayE s t l)]) (by simp [results, Try.results34, go_sem, p0, p1]) rfl ⟨_, rfl, S0.out _ hbw, hbw⟩
end Go.Proofs.Ytgmjfmajdnoogaa
