/-
  Walk of the document's Wait (package groundlingref14). Conditions: as the theorem says.
-/
import Derived.Test.YtgmjfmajdnoogaaLkQ
import Derived.Test.YtgmjfmajdnoogaaLkY
namespace Go.Proofs.Ytgmjfmajdnoogaa
open Go.RowKit

theorem own_addr {α : Type} {R : Rep α} {e B c n : Nat} {A : Option Addr} {w : World} {xs : List α} (h : Own R e B w (.slice A n c) xs) : (A = none ∧ xs = []) ∨ ∃ g, A = some ⟨g, 0, none⟩ := by
  obtain ⟨_, ⟨_, h⟩, _⟩ := h
  rcases h with ⟨h, h0⟩ | ⟨g, _, _, h, _⟩
  · injection h with h
    exact .inl ⟨h, List.eq_nil_of_length_eq_zero h0⟩
  · injection h with h
    exact .inr ⟨g, h⟩
theorem sl_zero {α : Type} {R : Rep α} {w : World} {A : Option Addr} {n c : Nat} {xs : List α} (h : Sl R w (.slice A n c) xs) : Sl R w (.slice A 0 0) [] := by
  obtain ⟨A', c', he, _, _, h⟩ := h
  injection he with e1 _ _
  subst e1
  rcases h with ⟨rfl, _⟩ | ⟨b, off, rfl, hb, _⟩
  · exact Sl.none R w
  · exact ⟨_, 0, rfl, by simp, by omega, .inr ⟨b, off, rfl, hb, fun i x hi => by simp at hi⟩⟩
theorem sl_take {α : Type} {R : Rep α} {w : World} {A : Option Addr} {n c j : Nat} {xs : List α} (h : Sl R w (.slice A n c) xs) (hj : j ≤ xs.length) : Sl R w (.slice A j c) (xs.take j) := by
  obtain ⟨A', c', he, hc, hm, h⟩ := h
  injection he with e1 e2 e3
  subst e1 e3
  refine ⟨A, c, by rw [List.length_take, Nat.min_eq_left hj], by rw [List.length_take]; omega, hm, ?_⟩
  rcases h with h | ⟨b, off, rfl, hb, h⟩
  · exact .inl h
  · exact .inr ⟨b, off, rfl, hb, fun i x hi => h i x (by rw [List.getElem?_take] at hi; split at hi; exact hi; cases hi)⟩
theorem sl_drop {α : Type} {R : Rep α} {w : World} {b off n c j : Nat} {xs : List α} {s : Option Nat} (h : Sl R w (.slice (some ⟨b, off, s⟩) n c) xs) (hj : j ≤ xs.length) : Sl R w (.slice (some ⟨b, off + j * R.size, none⟩) (xs.length - j) (c - j)) (xs.drop j) := by
  obtain ⟨A', c', he, hc, hm, h⟩ := h
  injection he with e1 e2 e3
  subst e1 e3
  refine ⟨_, _, by rw [List.length_drop], by rw [List.length_drop]; omega, by omega, .inr ?_⟩
  rcases h with ⟨h, _⟩ | ⟨b', off', he, hb, h⟩
  · cases h
  · injection he with he
    injection he with e1 e2 e3
    subst e1 e2 e3
    refine ⟨_, _, rfl, hb, fun i x hi => ?_⟩
    rw [List.getElem?_drop] at hi
    obtain ⟨cs, h1, h2⟩ := h _ x hi
    exact ⟨cs, h1, by rw [show off + j * R.size + i * R.size = off + (j + i) * R.size by rw [Nat.add_mul]; omega]; exact h2⟩

set_option maxHeartbeats 1000000 in
theorem rwait_any (v1 v2 : Value) (s : St) (t l : Int) (w : World) (h1 : Sl intR w v1 s.hs) (h2 : Sl wtR w v2 s.ws) (bt : Bd t) :
    Calls Try.prog 35 #[.agg #[v1, v2], .int .i64 t, .int .i64 l] w fun e w' => ∃ v, e = .returned (.tuple #[v, .int .i64 (waitS s t l).2]) ∧ IsSt w' v (waitS s t l).1 ∧ Below w.heap.size w w' := by
  obtain ⟨A, c, rfl, hc, hm, h1⟩ := h1.open
  obtain ⟨A', c', rfl, _, hm', h2⟩ := h2.open
  have hl : s.hs.length ≤ 9223372036854775807 := by omega
  have C1 := Lib.hid (fun W (hb : Below w.heap.size w W) => rmay_any _ _ s t l W (h1.up hb) (h2.up hb))
  have S0 := Lib.hid (fun W (hb : Below w.heap.size w W) => (show IsSt W (.agg #[.slice A s.hs.length c, .slice A' s.ws.length c']) s from ⟨_, _, rfl, h1.up hb, h2.up hb⟩))
  by_cases q1 : mayE s t l = 0
  · obtain ⟨gc, _, g0, g1⟩ := mayE_ok q1
    obtain ⟨z1, z2, _⟩ := chk_ok gc
    obtain ⟨k, rfl⟩ := Int.eq_ofNat_of_zero_le g0
    have hk : k < s.hs.length := by omega
    have H1 := Lib.hid q1
    clear q1 g0 g1 gc
    have C2 := Lib.hid (fun W (hb : Below w.heap.size w W) => copy_any _ _ s W (h1.up hb) (h2.up hb) (by omega) (by omega))
    have C3 := Lib.hid (fun W (hb : Below w.heap.size w W) => (without_any _ s.ws t W (h2.up hb) (by omega)).mono fun _ _ h => ownf h)
    have hT := Lib.hid (show waitS s t (k : Int) = (⟨s.hs, ins t k (drop_ t s.ws)⟩, 0) by rw [waitS, if_neg (by rw [H1.out]; simp)])
    have hdl := drop_len t s.ws
    have hbk : Bd (k : Int) := by unfold Bd; omega
    clear h1 h2
    go_enter Try.func35, Try.ntmps35
    go_wp2_with fail
    refine at_call (fun W => Below w.heap.size w W ∧ W.heap.size = w.heap.size + 2 ∧ W.cell? ⟨w.heap.size, 0, none⟩ = some (.slice A s.hs.length c) ∧ W.cell? ⟨w.heap.size, 1, none⟩ = some (.slice A' s.ws.length c') ∧
      W.cell? ⟨w.heap.size + 1, 0, none⟩ = some (.slice none 0 0) ∧ W.cell? ⟨w.heap.size + 1, 1, none⟩ = some (.slice none 0 0) ∧ W.frozen? ⟨w.heap.size + 1, 0, none⟩ = false ∧ W.frozen? ⟨w.heap.size + 1, 1, none⟩ = false)
      ⟨(ba _ _).alloc (by simp) _, by simp, by go_simp, by go_simp, by go_simp, by go_simp, by go_simp, by go_simp⟩ fun W0 ⟨hb0, hz, k0, k1, r0, r1, f0, f1⟩ => ?_
    refine (C1.out _ hb0).mono ?_
    rw [H1.out]
    rintro e w1 ⟨rfl, hb1⟩
    have hb1' : Below w.heap.size w w1 := hb0.trans (hb1.mono hb0.size)
    have HB1 := Lib.hid hb1'
    replace k0 := cell_later hb1 k0
    replace k1 := cell_later hb1 k1
    replace f0 := free_later hb1 r0 f0
    replace f1 := free_later hb1 r1 f1
    replace r0 := cell_later hb1 r0
    replace r1 := cell_later hb1 r1
    have hz1 : w.heap.size + 2 ≤ w1.heap.size := by have := hb1.size; omega
    clear hb0 hz hb1 hb1'
    go_wp2_with fail
    refine (C2.out _ HB1.out).mono ?_
    rintro e w2 ⟨x1, x2, rfl, ho1, ho2, hb2⟩
    obtain ⟨A1, d1, hx1, _, _, ho1'⟩ := ho1.form
    obtain ⟨A2, d2, hx2, _, _, ho2'⟩ := ho2.form
    rw [hx1, hx2]
    clear hx1 hx2
    replace k0 := cell_later hb2 k0
    replace k1 := cell_later hb2 k1
    replace f0 := free_later hb2 r0 f0
    replace f1 := free_later hb2 r1 f1
    replace r0 := cell_later hb2 r0
    replace r1 := cell_later hb2 r1
    have z12 : w1.heap.size ≤ w2.heap.size := hb2.size
    have hq1 : w.heap.size + 1 < w2.heap.size := by omega
    have hq3 : w.heap.size < w2.heap.size := by omega
    have O1 := Lib.hid ho1'
    have HL1 := Lib.hid (fun j hj => (ho1'.lt j hj).2)
    have HB2 := Lib.hid (HB1.out.trans (hb2.mono HB1.out.size))
    clear ho1 ho2 ho1' ho2' hb2
    go_wp2_with fail
    refine at_call (fun W => Below w.heap.size w W ∧ Own intR 3 w1.heap.size W (.slice A1 s.hs.length d1) s.hs ∧ Cells W w2.heap.size [.slice A1 s.hs.length d1, .slice A2 s.ws.length d2] ∧
      W.cell? ⟨w.heap.size + 1, 0, none⟩ = some (.slice none 0 0) ∧ W.cell? ⟨w.heap.size + 1, 1, none⟩ = some (.slice none 0 0) ∧ W.frozen? ⟨w.heap.size + 1, 0, none⟩ = false ∧ W.frozen? ⟨w.heap.size + 1, 1, none⟩ = false)
      ⟨bal HB2.out, O1.out.up (ba _ _), Cells.new _ _ _, by go_simp, by go_simp, by go_simp, by go_simp⟩ fun W2 ⟨hb3, o1, hc3, r0, r1, f0, f1⟩ => ?_
    refine (C3.out _ hb3).mono ?_
    rintro e W3 ⟨A3, d3, rfl, o3, hb4⟩
    have zl := hc3.lt
    have HC3 := Lib.hid (hc3.later hb4)
    have O3 := Lib.hid (o1.up hb4)
    have HB3 := Lib.hid (hb3.trans (hb4.mono hb3.size))
    have z23 : w2.heap.size < W3.heap.size := Nat.lt_of_lt_of_le zl hb4.size
    replace f0 := free_later hb4 r0 f0
    replace f1 := free_later hb4 r1 f1
    replace r0 := cell_later hb4 r0
    replace r1 := cell_later hb4 r1
    have OR := Lib.hid o3
    have HR := Lib.hid o3.sl
    have c0 := HC3.out.c 0 _ rfl
    have c1 := HC3.out.c 1 _ rfl
    have d0' := HC3.out.f 1
    clear hb3 hb4 o1 o3 hc3 zl O1
    generalize hrest : drop_ t s.ws = rest at OR HR hT hdl ⊢
    have hrl : rest.length ≤ 200 := by omega
    clear hdl hrest
    go_wp2_with fail
    go_loop [11] (fun i => ∃ j : Nat, j ≤ rest.length ∧ i = .int .i64 j ∧ Hid (∀ m, (hm : m < rest.length) → m < j → rest[m].task < t)) (fun i => rest.length - (intOf i).toNat)
    case atStart => exact ⟨0, by omega, rfl, fun m _ h => by omega⟩
    case round =>
      obtain ⟨j, hj, rfl, hlo⟩ := hrel
      by_cases hstop : ∃ h : j < rest.length, rest[j].task < t
      · obtain ⟨hlt, hp⟩ := hstop
        obtain ⟨b, off, rfl, _, e0, e1, _, _⟩ := HR.out.atW hlt
        have hp' : decide (rest[j].task < t) = true := by simpa using hp
        have HP := Lib.hid hp
        clear hp
        go_wp2_with fail
        go_round
        case rel =>
          refine ⟨j + 1, by omega, by go_num, fun m hm h => ?_⟩
          by_cases e : m = j
          · subst e; exact HP.out
          · exact hlo.out m hm (by omega)
        case measure => simp [intOf]; omega
      · have hins := Lib.hid (ins_of (t := t) (l := k) hj hlo.out fun h h' => hstop ⟨h, h'⟩)
        clear hlo
        have i1 : (0 : Int) ≤ (j : Int) := by omega
        have i2 : (j : Int) ≤ (rest.length : Int) := by omega
        obtain ⟨hd3, hd3m⟩ : rest.length ≤ d3 ∧ d3 ≤ 9223372036854775807 := by
          obtain ⟨A', d', he, h1, h2, _⟩ := HR.out
          injection he with _ _ e3
          subst e3
          exact ⟨h1, h2⟩
        have i3 : (rest.length : Int) ≤ (d3 : Int) := by omega
        have i4 : (j : Int) ≤ (d3 : Int) := by omega
        obtain ⟨lo, hlo⟩ : ∃ lo, lo = rest.take j := ⟨_, rfl⟩
        obtain ⟨hi, hhi⟩ : ∃ hi, hi = rest.drop j := ⟨_, rfl⟩
        have hll : lo.length ≤ 200 := by rw [hlo, List.length_take]; omega
        have hhl : hi.length ≤ 200 := by rw [hhi, List.length_drop]; omega
        have HLO := Lib.hid (hlo ▸ sl_take HR.out hj)
        rw [← hlo, ← hhi] at hins
        have htests : (∃ hlt : j < rest.length, Hid (decide (rest[j].task < t) = false)) ∨ j = rest.length := by
          rcases Nat.lt_or_ge j rest.length with h | h
          · exact .inl ⟨h, Lib.hid (by simpa using fun h' => hstop ⟨h, h'⟩)⟩
          · exact .inr (by omega)
        rcases own_addr OR.out with ⟨rfl, rfl⟩ | ⟨g3, rfl⟩
        · obtain rfl : j = 0 := by simpa using hj
          obtain rfl : d3 = 0 := by
            obtain ⟨A', d', he, h1, h2, h3⟩ := HR.out
            injection he with e1 _ e3
            subst e1 e3
            rcases h3 with ⟨_, h⟩ | ⟨b, off, h, _⟩
            · exact h
            · cases h
          replace HLO := Lib.hid (show Sl wtR W3 (.slice none 0 0) lo by rw [hlo]; exact Sl.none _ _)
          have HHI := Lib.hid (show Sl wtR W3 (.slice none 0 0) hi by rw [hhi]; exact Sl.none _ _)
          clear hlo hhi htests
          go_wp2_with fail
          go_region_held3 (fun W => W.cell? ⟨w2.heap.size, 0, none⟩ = some (.slice A1 s.hs.length d1)) (exact by first | assumption | exact cell_later (ba _ _) (by assumption) | exact cell_later HBa.out (by assumption) | exact cell_later HBb.out (by assumption) | exact cell_later HBc.out (by assumption) | go_simp)
            (first
              | ((refine step_append_sl (by rfl) (.tmp 41) (.tmp 44) 23 (by rfl) wtR W3.heap.size 33 _ 16 Try.underlying23 infoW rfl (by decide) (.slice (some ⟨_, 0, none⟩) 0 0) [] (by rfl) (by first | exact (own_empty (by first | omega | (simp; done) | (simp; omega)) (by first | omega | (simp; done) | (simp; omega))) | exact (own_empty (by first | omega | (simp; done) | (simp; omega)) (by first | omega | (simp; done) | (simp; omega))).up (ba _ _) | exact (own_empty (by first | omega | (simp; done) | (simp; omega)) (by first | omega | (simp; done) | (simp; omega))).up (bdd (Below.refl _ _)) | exact ((own_empty (by first | omega | (simp; done) | (simp; omega)) (by first | omega | (simp; done) | (simp; omega))).up (ba _ _)).up (bdd (Below.refl _ _)) | fail) _ lo (by rfl) (HLO.out.up (by first | exact Below.refl _ _ | exact ba _ _ | exact bdd (ba _ _) | exact bal (ba _ _) | exact bdd (bal (ba _ _)) | exact bdd (Below.refl _ _) | fail)) (by simp; omega) (by decide) (by first | omega | (simp; done) | (simp; omega)) (fun w' _ cs y h => wtR_flat _ _ _ _ h) ?_; intro va wa howna hga; simp only [List.nil_append] at howna; obtain ⟨Aa, da, hva, _, _, howna⟩ := howna.form; subst hva; have hsa := hga.size; (try simp at hsa); have HBa := Lib.hid (Below.grown (a := W3) (B := W3.heap.size) (by first | exact Below.refl _ _ | exact ba _ _ | exact bdd (ba _ _) | exact bal (ba _ _) | exact bdd (bal (ba _ _)) | exact bdd (Below.refl _ _) | fail) hga (by first | omega | (simp; done) | (simp; omega)) (fun k hk => by simp [Value.ownBlock] at hk; omega))))
              | ((refine step_append_sl (by rfl) (.tmp 45) (.tmp 49) 23 (by rfl) wtR W3.heap.size 33 _ 16 Try.underlying23 infoW rfl (by decide) (.slice Aa lo.length da) lo (by rfl) (by first | exact howna | exact howna.up (ba _ _) | fail) _ [(⟨t, (k : Int)⟩ : Wt)] (by rfl) (by first | exact (own_wt _ _ (⟨t, (k : Int)⟩ : Wt) (by first | omega | (simp; done) | (simp; omega)) bt hbk).sl | exact ((own_wt _ _ (⟨t, (k : Int)⟩ : Wt) (by first | omega | (simp; done) | (simp; omega)) bt hbk).kept hga (fun k hk e => by simp [Value.ownBlock] at hk e; omega) (fun cs y h => wtR_flat _ _ _ _ h)).sl | exact (((own_wt _ _ (⟨t, (k : Int)⟩ : Wt) (by first | omega | (simp; done) | (simp; omega)) bt hbk).up (ba _ _)).kept hga (fun k hk e => by simp [Value.ownBlock] at hk e; omega) (fun cs y h => wtR_flat _ _ _ _ h)).sl | exact (((own_wt _ _ (⟨t, (k : Int)⟩ : Wt) (by first | omega | (simp; done) | (simp; omega)) bt hbk).up (bdd (Below.refl _ _))).kept hga (fun k hk e => by simp [Value.ownBlock] at hk e; omega) (fun cs y h => wtR_flat _ _ _ _ h)).sl | exact ((((own_wt _ _ (⟨t, (k : Int)⟩ : Wt) (by first | omega | (simp; done) | (simp; omega)) bt hbk).up (ba _ _)).up (bdd (Below.refl _ _))).kept hga (fun k hk e => by simp [Value.ownBlock] at hk e; omega) (fun cs y h => wtR_flat _ _ _ _ h)).sl | fail) (by simp; omega) (by decide) (by first | omega | (simp; done) | (simp; omega)) (fun w' _ cs y h => wtR_flat _ _ _ _ h) ?_; intro vb wb hownb hgb; obtain ⟨Ab, db, hvb, _, _, hownb⟩ := hownb.form; subst hvb; have hsb := hgb.size; (try simp at hsb); have HBb := Lib.hid (Below.grown (a := W3) (B := W3.heap.size) (by first | exact Below.refl _ _ | exact ba _ _ | exact bdd (ba _ _) | exact bal (ba _ _) | exact bdd (bal (ba _ _)) | exact bdd (Below.refl _ _) | exact HBa.out | exact bal HBa.out | exact bal (bal HBa.out) | fail) hgb (by first | omega | (simp; done) | (simp; omega)) (fun k hk => (howna.lt k hk).1))))
              | ((refine step_append_sl (by rfl) (.tmp 50) (.tmp 53) 23 (by rfl) wtR W3.heap.size 33 _ 16 Try.underlying23 infoW rfl (by decide) (.slice Ab (lo ++ [(⟨t, (k : Int)⟩ : Wt)]).length db) (lo ++ [(⟨t, (k : Int)⟩ : Wt)]) (by rfl) hownb _ hi (by rfl) (HHI.out.up HBb.out) (by simp; omega) (by decide) (by first | omega | (simp; done) | (simp; omega)) (fun w' _ cs y h => wtR_flat _ _ _ _ h) ?_; intro vc wc hownc hgc; obtain ⟨Ac, dc, hvc, _, _, hownc⟩ := hownc.form; generalize hnc : (lo ++ [(⟨t, (k : Int)⟩ : Wt)] ++ hi).length = nc at hownc hvc; clear hnc; subst hvc; have HBc := Lib.hid (Below.grown (a := W3) (B := W3.heap.size) HBb.out hgc HBb.out.size (fun k hk => (hownb.lt k hk).1)); have e0c := cell_later HBc.out c0; have e1c := cell_later HBc.out c1; have efc := free_later HBc.out c1 d0'; have rc0 := cell_later HBc.out r0; have rc1 := cell_later HBc.out r1; have fc0 := free_later HBc.out r0 f0; have fc1 := free_later HBc.out r1 f1; have zc := HBc.out.size))
              | fail)
          all_goals
            go_wp2_with fail
            rw [hT.out]
            have hgA := grownBy_set wc w2.heap.size 1 (.slice Ac nc dc)
            obtain ⟨p0, p1, hg2⟩ := put2 (a := .slice A1 s.hs.length d1) (b := .slice Ac nc dc) (cell_grown hgA rc0 (by simp; omega)) (cell_grown hgA rc1 (by simp; omega))
            have o1 := (O3.out.up HBc.out).kept hgA (fun j hj e => by have h1 := HL1.out _ hj; injection e with e; omega) (fun cs y h => intR_flat _ _ _ _ h)
            have o1' := o1.kept hg2 (fun j hj e => by have h1 := (o1.lt j hj).1; injection e with e; omega) (fun cs y h => intR_flat _ _ _ _ h)
            have o3 := hownc.kept hgA (fun j hj e => by have h1 := (hownc.lt j hj).1; injection e with e; omega) (fun cs y h => wtR_flat _ _ _ _ h)
            have o3' := o3.kept hg2 (fun j hj e => by have h1 := (o3.lt j hj).1; injection e with e; omega) (fun cs y h => wtR_flat _ _ _ _ h)
            have hbc : Below w.heap.size w wc := HB3.out.trans (HBc.out.mono HB3.out.size)
            have hbw := (hbc.grown hgA hbc.size (fun j hj => by injection hj; omega)).grown hg2 (by simp; exact hbc.size) (fun j hj => by injection hj; omega)
            refine bodyPost_ret (v := .tuple #[.agg #[.slice A1 s.hs.length d1, .slice Ac nc dc], .int .i64 0]) (by simp [results, Try.results35, go_sem, p0, p1]) rfl ⟨_, rfl, ⟨_, _, rfl, o1'.sl, by rw [hins.out]; exact o3'.sl⟩, hbw⟩
        · by_cases hdk : d3 = j
          · obtain rfl : j = rest.length := by omega
            obtain rfl : d3 = rest.length := hdk
            have HHI := Lib.hid (show Sl wtR W3 (.slice (some ⟨g3, 0, none⟩) 0 0) hi by rw [hhi, List.drop_length]; exact sl_zero HR.out)
            clear hlo hhi htests
            go_wp2_with fail
            go_region_held3 (fun W => W.cell? ⟨w2.heap.size, 0, none⟩ = some (.slice A1 s.hs.length d1)) (exact by first | assumption | exact cell_later (ba _ _) (by assumption) | exact cell_later HBa.out (by assumption) | exact cell_later HBb.out (by assumption) | exact cell_later HBc.out (by assumption) | go_simp)
              (first
                | ((refine step_append_sl (by rfl) (.tmp 41) (.tmp 44) 23 (by rfl) wtR W3.heap.size 33 _ 16 Try.underlying23 infoW rfl (by decide) (.slice (some ⟨_, 0, none⟩) 0 0) [] (by rfl) (by first | exact (own_empty (by first | omega | (simp; done) | (simp; omega)) (by first | omega | (simp; done) | (simp; omega))) | exact (own_empty (by first | omega | (simp; done) | (simp; omega)) (by first | omega | (simp; done) | (simp; omega))).up (ba _ _) | exact (own_empty (by first | omega | (simp; done) | (simp; omega)) (by first | omega | (simp; done) | (simp; omega))).up (bdd (Below.refl _ _)) | exact ((own_empty (by first | omega | (simp; done) | (simp; omega)) (by first | omega | (simp; done) | (simp; omega))).up (ba _ _)).up (bdd (Below.refl _ _)) | fail) _ lo (by rfl) (HLO.out.up (by first | exact Below.refl _ _ | exact ba _ _ | exact bdd (ba _ _) | exact bal (ba _ _) | exact bdd (bal (ba _ _)) | exact bdd (Below.refl _ _) | fail)) (by simp; omega) (by decide) (by first | omega | (simp; done) | (simp; omega)) (fun w' _ cs y h => wtR_flat _ _ _ _ h) ?_; intro va wa howna hga; simp only [List.nil_append] at howna; obtain ⟨Aa, da, hva, _, _, howna⟩ := howna.form; subst hva; have hsa := hga.size; (try simp at hsa); have HBa := Lib.hid (Below.grown (a := W3) (B := W3.heap.size) (by first | exact Below.refl _ _ | exact ba _ _ | exact bdd (ba _ _) | exact bal (ba _ _) | exact bdd (bal (ba _ _)) | exact bdd (Below.refl _ _) | fail) hga (by first | omega | (simp; done) | (simp; omega)) (fun k hk => by simp [Value.ownBlock] at hk; omega))))
                | ((refine step_append_sl (by rfl) (.tmp 45) (.tmp 49) 23 (by rfl) wtR W3.heap.size 33 _ 16 Try.underlying23 infoW rfl (by decide) (.slice Aa lo.length da) lo (by rfl) (by first | exact howna | exact howna.up (ba _ _) | fail) _ [(⟨t, (k : Int)⟩ : Wt)] (by rfl) (by first | exact (own_wt _ _ (⟨t, (k : Int)⟩ : Wt) (by first | omega | (simp; done) | (simp; omega)) bt hbk).sl | exact ((own_wt _ _ (⟨t, (k : Int)⟩ : Wt) (by first | omega | (simp; done) | (simp; omega)) bt hbk).kept hga (fun k hk e => by simp [Value.ownBlock] at hk e; omega) (fun cs y h => wtR_flat _ _ _ _ h)).sl | exact (((own_wt _ _ (⟨t, (k : Int)⟩ : Wt) (by first | omega | (simp; done) | (simp; omega)) bt hbk).up (ba _ _)).kept hga (fun k hk e => by simp [Value.ownBlock] at hk e; omega) (fun cs y h => wtR_flat _ _ _ _ h)).sl | exact (((own_wt _ _ (⟨t, (k : Int)⟩ : Wt) (by first | omega | (simp; done) | (simp; omega)) bt hbk).up (bdd (Below.refl _ _))).kept hga (fun k hk e => by simp [Value.ownBlock] at hk e; omega) (fun cs y h => wtR_flat _ _ _ _ h)).sl | exact ((((own_wt _ _ (⟨t, (k : Int)⟩ : Wt) (by first | omega | (simp; done) | (simp; omega)) bt hbk).up (ba _ _)).up (bdd (Below.refl _ _))).kept hga (fun k hk e => by simp [Value.ownBlock] at hk e; omega) (fun cs y h => wtR_flat _ _ _ _ h)).sl | fail) (by simp; omega) (by decide) (by first | omega | (simp; done) | (simp; omega)) (fun w' _ cs y h => wtR_flat _ _ _ _ h) ?_; intro vb wb hownb hgb; obtain ⟨Ab, db, hvb, _, _, hownb⟩ := hownb.form; subst hvb; have hsb := hgb.size; (try simp at hsb); have HBb := Lib.hid (Below.grown (a := W3) (B := W3.heap.size) (by first | exact Below.refl _ _ | exact ba _ _ | exact bdd (ba _ _) | exact bal (ba _ _) | exact bdd (bal (ba _ _)) | exact bdd (Below.refl _ _) | exact HBa.out | exact bal HBa.out | exact bal (bal HBa.out) | fail) hgb (by first | omega | (simp; done) | (simp; omega)) (fun k hk => (howna.lt k hk).1))))
                | ((refine step_append_sl (by rfl) (.tmp 50) (.tmp 53) 23 (by rfl) wtR W3.heap.size 33 _ 16 Try.underlying23 infoW rfl (by decide) (.slice Ab (lo ++ [(⟨t, (k : Int)⟩ : Wt)]).length db) (lo ++ [(⟨t, (k : Int)⟩ : Wt)]) (by rfl) hownb _ hi (by rfl) (HHI.out.up HBb.out) (by simp; omega) (by decide) (by first | omega | (simp; done) | (simp; omega)) (fun w' _ cs y h => wtR_flat _ _ _ _ h) ?_; intro vc wc hownc hgc; obtain ⟨Ac, dc, hvc, _, _, hownc⟩ := hownc.form; generalize hnc : (lo ++ [(⟨t, (k : Int)⟩ : Wt)] ++ hi).length = nc at hownc hvc; clear hnc; subst hvc; have HBc := Lib.hid (Below.grown (a := W3) (B := W3.heap.size) HBb.out hgc HBb.out.size (fun k hk => (hownb.lt k hk).1)); have e0c := cell_later HBc.out c0; have e1c := cell_later HBc.out c1; have efc := free_later HBc.out c1 d0'; have rc0 := cell_later HBc.out r0; have rc1 := cell_later HBc.out r1; have fc0 := free_later HBc.out r0 f0; have fc1 := free_later HBc.out r1 f1; have zc := HBc.out.size))
                | fail)
            all_goals
              go_wp2_with fail
              rw [hT.out]
              have hgA := grownBy_set wc w2.heap.size 1 (.slice Ac nc dc)
              obtain ⟨p0, p1, hg2⟩ := put2 (a := .slice A1 s.hs.length d1) (b := .slice Ac nc dc) (cell_grown hgA rc0 (by simp; omega)) (cell_grown hgA rc1 (by simp; omega))
              have o1 := (O3.out.up HBc.out).kept hgA (fun j hj e => by have h1 := HL1.out _ hj; injection e with e; omega) (fun cs y h => intR_flat _ _ _ _ h)
              have o1' := o1.kept hg2 (fun j hj e => by have h1 := (o1.lt j hj).1; injection e with e; omega) (fun cs y h => intR_flat _ _ _ _ h)
              have o3 := hownc.kept hgA (fun j hj e => by have h1 := (hownc.lt j hj).1; injection e with e; omega) (fun cs y h => wtR_flat _ _ _ _ h)
              have o3' := o3.kept hg2 (fun j hj e => by have h1 := (o3.lt j hj).1; injection e with e; omega) (fun cs y h => wtR_flat _ _ _ _ h)
              have hbc : Below w.heap.size w wc := HB3.out.trans (HBc.out.mono HB3.out.size)
              have hbw := (hbc.grown hgA hbc.size (fun j hj => by injection hj; omega)).grown hg2 (by simp; exact hbc.size) (fun j hj => by injection hj; omega)
              refine bodyPost_ret (v := .tuple #[.agg #[.slice A1 s.hs.length d1, .slice Ac nc dc], .int .i64 0]) (by simp [results, Try.results35, go_sem, p0, p1]) rfl ⟨_, rfl, ⟨_, _, rfl, o1'.sl, by rw [hins.out]; exact o3'.sl⟩, hbw⟩
          · have HHI := Lib.hid (hhi ▸ sl_drop HR.out hj)
            rw [Nat.zero_add] at HHI
            clear hlo hhi
            rcases htests with ⟨hlt, ht⟩ | he
            · obtain ⟨b, off, he, _, e0, e1, _, _⟩ := HR.out.atW hlt
              injection he with he
              injection he with he1 he2 he3
              subst he1 he2
              rw [Nat.zero_add] at e0 e1
              have ht' := ht.out
              go_wp2_with fail
              go_region_held3 (fun W => W.cell? ⟨w2.heap.size, 0, none⟩ = some (.slice A1 s.hs.length d1)) (exact by first | assumption | exact cell_later (ba _ _) (by assumption) | exact cell_later HBa.out (by assumption) | exact cell_later HBb.out (by assumption) | exact cell_later HBc.out (by assumption) | go_simp)
                (first
                  | ((refine step_append_sl (by rfl) (.tmp 41) (.tmp 44) 23 (by rfl) wtR W3.heap.size 33 _ 16 Try.underlying23 infoW rfl (by decide) (.slice (some ⟨_, 0, none⟩) 0 0) [] (by rfl) (by first | exact (own_empty (by first | omega | (simp; done) | (simp; omega)) (by first | omega | (simp; done) | (simp; omega))) | exact (own_empty (by first | omega | (simp; done) | (simp; omega)) (by first | omega | (simp; done) | (simp; omega))).up (ba _ _) | exact (own_empty (by first | omega | (simp; done) | (simp; omega)) (by first | omega | (simp; done) | (simp; omega))).up (bdd (Below.refl _ _)) | exact ((own_empty (by first | omega | (simp; done) | (simp; omega)) (by first | omega | (simp; done) | (simp; omega))).up (ba _ _)).up (bdd (Below.refl _ _)) | fail) _ lo (by rfl) (HLO.out.up (by first | exact Below.refl _ _ | exact ba _ _ | exact bdd (ba _ _) | exact bal (ba _ _) | exact bdd (bal (ba _ _)) | exact bdd (Below.refl _ _) | fail)) (by simp; omega) (by decide) (by first | omega | (simp; done) | (simp; omega)) (fun w' _ cs y h => wtR_flat _ _ _ _ h) ?_; intro va wa howna hga; simp only [List.nil_append] at howna; obtain ⟨Aa, da, hva, _, _, howna⟩ := howna.form; subst hva; have hsa := hga.size; (try simp at hsa); have HBa := Lib.hid (Below.grown (a := W3) (B := W3.heap.size) (by first | exact Below.refl _ _ | exact ba _ _ | exact bdd (ba _ _) | exact bal (ba _ _) | exact bdd (bal (ba _ _)) | exact bdd (Below.refl _ _) | fail) hga (by first | omega | (simp; done) | (simp; omega)) (fun k hk => by simp [Value.ownBlock] at hk; omega))))
                  | ((refine step_append_sl (by rfl) (.tmp 45) (.tmp 49) 23 (by rfl) wtR W3.heap.size 33 _ 16 Try.underlying23 infoW rfl (by decide) (.slice Aa lo.length da) lo (by rfl) (by first | exact howna | exact howna.up (ba _ _) | fail) _ [(⟨t, (k : Int)⟩ : Wt)] (by rfl) (by first | exact (own_wt _ _ (⟨t, (k : Int)⟩ : Wt) (by first | omega | (simp; done) | (simp; omega)) bt hbk).sl | exact ((own_wt _ _ (⟨t, (k : Int)⟩ : Wt) (by first | omega | (simp; done) | (simp; omega)) bt hbk).kept hga (fun k hk e => by simp [Value.ownBlock] at hk e; omega) (fun cs y h => wtR_flat _ _ _ _ h)).sl | exact (((own_wt _ _ (⟨t, (k : Int)⟩ : Wt) (by first | omega | (simp; done) | (simp; omega)) bt hbk).up (ba _ _)).kept hga (fun k hk e => by simp [Value.ownBlock] at hk e; omega) (fun cs y h => wtR_flat _ _ _ _ h)).sl | exact (((own_wt _ _ (⟨t, (k : Int)⟩ : Wt) (by first | omega | (simp; done) | (simp; omega)) bt hbk).up (bdd (Below.refl _ _))).kept hga (fun k hk e => by simp [Value.ownBlock] at hk e; omega) (fun cs y h => wtR_flat _ _ _ _ h)).sl | exact ((((own_wt _ _ (⟨t, (k : Int)⟩ : Wt) (by first | omega | (simp; done) | (simp; omega)) bt hbk).up (ba _ _)).up (bdd (Below.refl _ _))).kept hga (fun k hk e => by simp [Value.ownBlock] at hk e; omega) (fun cs y h => wtR_flat _ _ _ _ h)).sl | fail) (by simp; omega) (by decide) (by first | omega | (simp; done) | (simp; omega)) (fun w' _ cs y h => wtR_flat _ _ _ _ h) ?_; intro vb wb hownb hgb; obtain ⟨Ab, db, hvb, _, _, hownb⟩ := hownb.form; subst hvb; have hsb := hgb.size; (try simp at hsb); have HBb := Lib.hid (Below.grown (a := W3) (B := W3.heap.size) (by first | exact Below.refl _ _ | exact ba _ _ | exact bdd (ba _ _) | exact bal (ba _ _) | exact bdd (bal (ba _ _)) | exact bdd (Below.refl _ _) | exact HBa.out | exact bal HBa.out | exact bal (bal HBa.out) | fail) hgb (by first | omega | (simp; done) | (simp; omega)) (fun k hk => (howna.lt k hk).1))))
                  | ((refine step_append_sl (by rfl) (.tmp 50) (.tmp 53) 23 (by rfl) wtR W3.heap.size 33 _ 16 Try.underlying23 infoW rfl (by decide) (.slice Ab (lo ++ [(⟨t, (k : Int)⟩ : Wt)]).length db) (lo ++ [(⟨t, (k : Int)⟩ : Wt)]) (by rfl) hownb _ hi (by rfl) (HHI.out.up HBb.out) (by simp; omega) (by decide) (by first | omega | (simp; done) | (simp; omega)) (fun w' _ cs y h => wtR_flat _ _ _ _ h) ?_; intro vc wc hownc hgc; obtain ⟨Ac, dc, hvc, _, _, hownc⟩ := hownc.form; generalize hnc : (lo ++ [(⟨t, (k : Int)⟩ : Wt)] ++ hi).length = nc at hownc hvc; clear hnc; subst hvc; have HBc := Lib.hid (Below.grown (a := W3) (B := W3.heap.size) HBb.out hgc HBb.out.size (fun k hk => (hownb.lt k hk).1)); have e0c := cell_later HBc.out c0; have e1c := cell_later HBc.out c1; have efc := free_later HBc.out c1 d0'; have rc0 := cell_later HBc.out r0; have rc1 := cell_later HBc.out r1; have fc0 := free_later HBc.out r0 f0; have fc1 := free_later HBc.out r1 f1; have zc := HBc.out.size))
                  | fail)
              all_goals
                go_wp2_with fail
                rw [hT.out]
                have hgA := grownBy_set wc w2.heap.size 1 (.slice Ac nc dc)
                obtain ⟨p0, p1, hg2⟩ := put2 (a := .slice A1 s.hs.length d1) (b := .slice Ac nc dc) (cell_grown hgA rc0 (by simp; omega)) (cell_grown hgA rc1 (by simp; omega))
                have o1 := (O3.out.up HBc.out).kept hgA (fun j hj e => by have h1 := HL1.out _ hj; injection e with e; omega) (fun cs y h => intR_flat _ _ _ _ h)
                have o1' := o1.kept hg2 (fun j hj e => by have h1 := (o1.lt j hj).1; injection e with e; omega) (fun cs y h => intR_flat _ _ _ _ h)
                have o3 := hownc.kept hgA (fun j hj e => by have h1 := (hownc.lt j hj).1; injection e with e; omega) (fun cs y h => wtR_flat _ _ _ _ h)
                have o3' := o3.kept hg2 (fun j hj e => by have h1 := (o3.lt j hj).1; injection e with e; omega) (fun cs y h => wtR_flat _ _ _ _ h)
                have hbc : Below w.heap.size w wc := HB3.out.trans (HBc.out.mono HB3.out.size)
                have hbw := (hbc.grown hgA hbc.size (fun j hj => by injection hj; omega)).grown hg2 (by simp; exact hbc.size) (fun j hj => by injection hj; omega)
                refine bodyPost_ret (v := .tuple #[.agg #[.slice A1 s.hs.length d1, .slice Ac nc dc], .int .i64 0]) (by simp [results, Try.results35, go_sem, p0, p1]) rfl ⟨_, rfl, ⟨_, _, rfl, o1'.sl, by rw [hins.out]; exact o3'.sl⟩, hbw⟩
            · subst he
              rw [Nat.sub_self] at HHI
              go_wp2_with fail
              go_region_held3 (fun W => W.cell? ⟨w2.heap.size, 0, none⟩ = some (.slice A1 s.hs.length d1)) (exact by first | assumption | exact cell_later (ba _ _) (by assumption) | exact cell_later HBa.out (by assumption) | exact cell_later HBb.out (by assumption) | exact cell_later HBc.out (by assumption) | go_simp)
                (first
                  | ((refine step_append_sl (by rfl) (.tmp 41) (.tmp 44) 23 (by rfl) wtR W3.heap.size 33 _ 16 Try.underlying23 infoW rfl (by decide) (.slice (some ⟨_, 0, none⟩) 0 0) [] (by rfl) (by first | exact (own_empty (by first | omega | (simp; done) | (simp; omega)) (by first | omega | (simp; done) | (simp; omega))) | exact (own_empty (by first | omega | (simp; done) | (simp; omega)) (by first | omega | (simp; done) | (simp; omega))).up (ba _ _) | exact (own_empty (by first | omega | (simp; done) | (simp; omega)) (by first | omega | (simp; done) | (simp; omega))).up (bdd (Below.refl _ _)) | exact ((own_empty (by first | omega | (simp; done) | (simp; omega)) (by first | omega | (simp; done) | (simp; omega))).up (ba _ _)).up (bdd (Below.refl _ _)) | fail) _ lo (by rfl) (HLO.out.up (by first | exact Below.refl _ _ | exact ba _ _ | exact bdd (ba _ _) | exact bal (ba _ _) | exact bdd (bal (ba _ _)) | exact bdd (Below.refl _ _) | fail)) (by simp; omega) (by decide) (by first | omega | (simp; done) | (simp; omega)) (fun w' _ cs y h => wtR_flat _ _ _ _ h) ?_; intro va wa howna hga; simp only [List.nil_append] at howna; obtain ⟨Aa, da, hva, _, _, howna⟩ := howna.form; subst hva; have hsa := hga.size; (try simp at hsa); have HBa := Lib.hid (Below.grown (a := W3) (B := W3.heap.size) (by first | exact Below.refl _ _ | exact ba _ _ | exact bdd (ba _ _) | exact bal (ba _ _) | exact bdd (bal (ba _ _)) | exact bdd (Below.refl _ _) | fail) hga (by first | omega | (simp; done) | (simp; omega)) (fun k hk => by simp [Value.ownBlock] at hk; omega))))
                  | ((refine step_append_sl (by rfl) (.tmp 45) (.tmp 49) 23 (by rfl) wtR W3.heap.size 33 _ 16 Try.underlying23 infoW rfl (by decide) (.slice Aa lo.length da) lo (by rfl) (by first | exact howna | exact howna.up (ba _ _) | fail) _ [(⟨t, (k : Int)⟩ : Wt)] (by rfl) (by first | exact (own_wt _ _ (⟨t, (k : Int)⟩ : Wt) (by first | omega | (simp; done) | (simp; omega)) bt hbk).sl | exact ((own_wt _ _ (⟨t, (k : Int)⟩ : Wt) (by first | omega | (simp; done) | (simp; omega)) bt hbk).kept hga (fun k hk e => by simp [Value.ownBlock] at hk e; omega) (fun cs y h => wtR_flat _ _ _ _ h)).sl | exact (((own_wt _ _ (⟨t, (k : Int)⟩ : Wt) (by first | omega | (simp; done) | (simp; omega)) bt hbk).up (ba _ _)).kept hga (fun k hk e => by simp [Value.ownBlock] at hk e; omega) (fun cs y h => wtR_flat _ _ _ _ h)).sl | exact (((own_wt _ _ (⟨t, (k : Int)⟩ : Wt) (by first | omega | (simp; done) | (simp; omega)) bt hbk).up (bdd (Below.refl _ _))).kept hga (fun k hk e => by simp [Value.ownBlock] at hk e; omega) (fun cs y h => wtR_flat _ _ _ _ h)).sl | exact ((((own_wt _ _ (⟨t, (k : Int)⟩ : Wt) (by first | omega | (simp; done) | (simp; omega)) bt hbk).up (ba _ _)).up (bdd (Below.refl _ _))).kept hga (fun k hk e => by simp [Value.ownBlock] at hk e; omega) (fun cs y h => wtR_flat _ _ _ _ h)).sl | fail) (by simp; omega) (by decide) (by first | omega | (simp; done) | (simp; omega)) (fun w' _ cs y h => wtR_flat _ _ _ _ h) ?_; intro vb wb hownb hgb; obtain ⟨Ab, db, hvb, _, _, hownb⟩ := hownb.form; subst hvb; have hsb := hgb.size; (try simp at hsb); have HBb := Lib.hid (Below.grown (a := W3) (B := W3.heap.size) (by first | exact Below.refl _ _ | exact ba _ _ | exact bdd (ba _ _) | exact bal (ba _ _) | exact bdd (bal (ba _ _)) | exact bdd (Below.refl _ _) | exact HBa.out | exact bal HBa.out | exact bal (bal HBa.out) | fail) hgb (by first | omega | (simp; done) | (simp; omega)) (fun k hk => (howna.lt k hk).1))))
                  | ((refine step_append_sl (by rfl) (.tmp 50) (.tmp 53) 23 (by rfl) wtR W3.heap.size 33 _ 16 Try.underlying23 infoW rfl (by decide) (.slice Ab (lo ++ [(⟨t, (k : Int)⟩ : Wt)]).length db) (lo ++ [(⟨t, (k : Int)⟩ : Wt)]) (by rfl) hownb _ hi (by rfl) (HHI.out.up HBb.out) (by simp; omega) (by decide) (by first | omega | (simp; done) | (simp; omega)) (fun w' _ cs y h => wtR_flat _ _ _ _ h) ?_; intro vc wc hownc hgc; obtain ⟨Ac, dc, hvc, _, _, hownc⟩ := hownc.form; generalize hnc : (lo ++ [(⟨t, (k : Int)⟩ : Wt)] ++ hi).length = nc at hownc hvc; clear hnc; subst hvc; have HBc := Lib.hid (Below.grown (a := W3) (B := W3.heap.size) HBb.out hgc HBb.out.size (fun k hk => (hownb.lt k hk).1)); have e0c := cell_later HBc.out c0; have e1c := cell_later HBc.out c1; have efc := free_later HBc.out c1 d0'; have rc0 := cell_later HBc.out r0; have rc1 := cell_later HBc.out r1; have fc0 := free_later HBc.out r0 f0; have fc1 := free_later HBc.out r1 f1; have zc := HBc.out.size))
                  | fail)
              all_goals
                go_wp2_with fail
                rw [hT.out]
                have hgA := grownBy_set wc w2.heap.size 1 (.slice Ac nc dc)
                obtain ⟨p0, p1, hg2⟩ := put2 (a := .slice A1 s.hs.length d1) (b := .slice Ac nc dc) (cell_grown hgA rc0 (by simp; omega)) (cell_grown hgA rc1 (by simp; omega))
                have o1 := (O3.out.up HBc.out).kept hgA (fun j hj e => by have h1 := HL1.out _ hj; injection e with e; omega) (fun cs y h => intR_flat _ _ _ _ h)
                have o1' := o1.kept hg2 (fun j hj e => by have h1 := (o1.lt j hj).1; injection e with e; omega) (fun cs y h => intR_flat _ _ _ _ h)
                have o3 := hownc.kept hgA (fun j hj e => by have h1 := (hownc.lt j hj).1; injection e with e; omega) (fun cs y h => wtR_flat _ _ _ _ h)
                have o3' := o3.kept hg2 (fun j hj e => by have h1 := (o3.lt j hj).1; injection e with e; omega) (fun cs y h => wtR_flat _ _ _ _ h)
                have hbc : Below w.heap.size w wc := HB3.out.trans (HBc.out.mono HB3.out.size)
                have hbw := (hbc.grown hgA hbc.size (fun j hj => by injection hj; omega)).grown hg2 (by simp; exact hbc.size) (fun j hj => by injection hj; omega)
                refine bodyPost_ret (v := .tuple #[.agg #[.slice A1 s.hs.length d1, .slice Ac nc dc], .int .i64 0]) (by simp [results, Try.results35, go_sem, p0, p1]) rfl ⟨_, rfl, ⟨_, _, rfl, o1'.sl, by rw [hins.out]; exact o3'.sl⟩, hbw⟩
  · have hn : (mayE s t l != 0) = true := by simpa using q1
    have hn' : (mayE s t l == 0) = false := by simpa using q1
    have hT := Lib.hid (show waitS s t l = (s, mayE s t l) by rw [waitS, if_pos q1])
    clear q1 h1 h2
    go_enter Try.func35, Try.ntmps35
    go_wp2_with fail
    refine at_call (fun W => Below w.heap.size w W ∧ W.heap.size = w.heap.size + 2 ∧ W.cell? ⟨w.heap.size, 0, none⟩ = some (.slice A s.hs.length c) ∧ W.cell? ⟨w.heap.size, 1, none⟩ = some (.slice A' s.ws.length c') ∧
      W.cell? ⟨w.heap.size + 1, 0, none⟩ = some (.slice none 0 0) ∧ W.cell? ⟨w.heap.size + 1, 1, none⟩ = some (.slice none 0 0) ∧ W.frozen? ⟨w.heap.size + 1, 0, none⟩ = false ∧ W.frozen? ⟨w.heap.size + 1, 1, none⟩ = false)
      ⟨(ba _ _).alloc (by simp) _, by simp, by go_simp, by go_simp, by go_simp, by go_simp, by go_simp, by go_simp⟩ fun W0 ⟨hb0, hz, k0, k1, r0, r1, f0, f1⟩ => ?_
    refine (C1.out _ hb0).mono ?_
    rintro e w1 ⟨rfl, hb1⟩
    have hb1' : Below w.heap.size w w1 := hb0.trans (hb1.mono hb0.size)
    have HB1 := Lib.hid hb1'
    have HZ := Lib.hid hz
    replace k0 := cell_later hb1 k0
    replace k1 := cell_later hb1 k1
    replace f0 := free_later hb1 r0 f0
    replace f1 := free_later hb1 r1 f1
    replace r0 := cell_later hb1 r0
    replace r1 := cell_later hb1 r1
    have hz1 : w.heap.size + 2 ≤ w1.heap.size := by have := hb1.size; omega
    clear hb0 hz hb1 hb1'
    go_wp2_with fail
    rw [hT.out]
    obtain ⟨p0, p1, hg2⟩ := put2 (a := .slice A s.hs.length c) (b := .slice A' s.ws.length c') r0 r1
    have hbw := HB1.out.grown hg2 (by omega) (fun j hj => by injection hj; omega)
    refine bodyPost_ret (v := .tuple #[.agg #[.slice A s.hs.length c, .slice A' s.ws.length c'], .int .i64 (mayE s t l)]) (by simp [results, Try.results35, go_sem, p0, p1]) rfl ⟨_, rfl, S0.out _ hbw, hbw⟩
end Go.Proofs.Ytgmjfmajdnoogaa
