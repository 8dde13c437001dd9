/-
  Walks of locks.Free, and of the document's answer for locks, second part (package groundlingref14): Free, New, may, without. Conditions: as each theorem says.
-/
import Derived.Test.YtgmjfmajdnoogaaLkN
namespace Go.Proofs.Ytgmjfmajdnoogaa
open Go.RowKit

/-- What Free answers. -/
def freeS (s : St) (l : Int) : Bool × Int := if askd s 1 l ≠ 0 then (false, askd s 1 l) else (s.hs.getD l.toNat 0 == 0, 0)

set_option maxHeartbeats 800000 in
theorem free_any (v1 v2 : Value) (s : St) (l : Int) (w : World) (h1 : Sl intR w v1 s.hs) (h2 : Sl wtR w v2 s.ws) :
    Calls Try.prog 24 #[.agg #[v1, v2], .int .i64 l] w fun e w' => e = .returned (.tuple #[.bool (freeS s l).1, .int .i64 (freeS s l).2]) ∧ Below w.heap.size w w' := by
  obtain ⟨A, c, rfl, hc, hm, h1⟩ := h1.open
  obtain ⟨A', c', rfl, _, hm', h2⟩ := h2.open
  have hl : s.hs.length ≤ 9223372036854775807 := by omega
  have C1 := Lib.hid (fun W (hb : Below w.heap.size w W) => asked_any _ _ s 1 l W (h1.up hb) (h2.up hb))
  clear h2
  by_cases q1 : askd s 1 l = 0
  · obtain ⟨_, _, g0, g1⟩ := askd_ok q1
    obtain ⟨k, rfl⟩ := Int.eq_ofNat_of_zero_le g0
    have hk : k < s.hs.length := by omega
    have H1 := Lib.hid q1
    obtain ⟨b, off, rfl, hbl, e0, _⟩ := h1.atI hk
    have hT := Lib.hid (show freeS s (k : Int) = (s.hs[k] == 0, 0) by rw [freeS, if_neg (by rw [H1.out]; simp), Int.toNat_natCast, List.getD_eq_getElem?_getD, List.getElem?_eq_getElem hk]; rfl)
    clear q1 g0 g1 h1
    go_enter Try.func24, Try.ntmps24
    go_wp2_with (go_at_call 32; refine (C1.out _ (ba _ _)).mono ?_; rw [H1.out]; rintro e w1 ⟨rfl, hb1⟩; have k0 := box_cell hb1 0 _ rfl; have m0 := cell_later ((ba _ _).trans (hb1.mono (by simp))) e0)
    go_ret2
    rw [hT.out]
    exact ⟨rfl, (ba _ _).trans (hb1.mono (by simp))⟩
  · have hn : (askd s 1 l != 0) = true := by simpa using q1
    have hT := Lib.hid (show freeS s l = (false, askd s 1 l) by rw [freeS, if_pos q1])
    clear q1 h1
    go_enter Try.func24, Try.ntmps24
    go_wp2_with (go_at_call 32; refine (C1.out _ (ba _ _)).mono ?_; rintro e w1 ⟨rfl, hb1⟩; have k0 := box_cell hb1 0 _ rfl)
    go_ret2
    rw [hT.out]
    exact ⟨rfl, (ba _ _).trans (hb1.mono (by simp))⟩

set_option maxHeartbeats 800000 in
theorem rfree_any (v1 v2 : Value) (s : St) (l : Int) (w : World) (h1 : Sl intR w v1 s.hs) (h2 : Sl wtR w v2 s.ws) :
    Calls Try.prog 39 #[.agg #[v1, v2], .int .i64 l] w fun e w' => e = .returned (.tuple #[.bool (freeS s l).1, .int .i64 (freeS s l).2]) ∧ Below w.heap.size w w' := by
  obtain ⟨A, c, rfl, hc, hm, h1⟩ := h1.open
  obtain ⟨A', c', rfl, _, hm', h2⟩ := h2.open
  have hl : s.hs.length ≤ 9223372036854775807 := by omega
  have C1 := Lib.hid (fun W (hb : Below w.heap.size w W) => rasked_any _ _ s 1 l W (h1.up hb) (h2.up hb))
  clear h2
  by_cases q1 : askd s 1 l = 0
  · obtain ⟨_, _, g0, g1⟩ := askd_ok q1
    obtain ⟨k, rfl⟩ := Int.eq_ofNat_of_zero_le g0
    have hk : k < s.hs.length := by omega
    have H1 := Lib.hid q1
    obtain ⟨b, off, rfl, hbl, e0, _⟩ := h1.atI hk
    have hT := Lib.hid (show freeS s (k : Int) = (s.hs[k] == 0, 0) by rw [freeS, if_neg (by rw [H1.out]; simp), Int.toNat_natCast, List.getD_eq_getElem?_getD, List.getElem?_eq_getElem hk]; rfl)
    clear q1 g0 g1 h1
    go_enter Try.func39, Try.ntmps39
    go_wp2_with (go_at_call 55; refine (C1.out _ (ba _ _)).mono ?_; rw [H1.out]; rintro e w1 ⟨rfl, hb1⟩; have k0 := box_cell hb1 0 _ rfl; have m0 := cell_later ((ba _ _).trans (hb1.mono (by simp))) e0)
    go_ret2
    rw [hT.out]
    exact ⟨rfl, (ba _ _).trans (hb1.mono (by simp))⟩
  · have hn : (askd s 1 l != 0) = true := by simpa using q1
    have hT := Lib.hid (show freeS s l = (false, askd s 1 l) by rw [freeS, if_pos q1])
    clear q1 h1
    go_enter Try.func39, Try.ntmps39
    go_wp2_with (go_at_call 55; refine (C1.out _ (ba _ _)).mono ?_; rintro e w1 ⟨rfl, hb1⟩; have k0 := box_cell hb1 0 _ rfl)
    go_ret2
    rw [hT.out]
    exact ⟨rfl, (ba _ _).trans (hb1.mono (by simp))⟩

set_option maxHeartbeats 1000000 in
theorem rnew_any (n : Int) (w : World) :
    Calls Try.prog 22 #[.int .i64 n] w fun e w' => ∃ v, e = .returned (.tuple #[v, .int .i64 (newS n).2]) ∧ IsSt w' v (newS n).1 ∧ Below w.heap.size w w' := by
  by_cases h1 : n < 0
  · have hT := Lib.hid (show newS n = (⟨[], []⟩, 7) by rw [newS, if_pos (.inl h1)])
    go_enter Try.func22, Try.ntmps22
    go_wp2_with fail
    rw [hT.out]
    refine bodyPost_ret (v := .tuple #[.agg #[.slice none 0 0, .slice none 0 0], .int .i64 7]) (by simp [results, Try.results22, go_sem]) rfl ⟨_, rfl, ⟨_, _, rfl, Sl.none _ _, Sl.none _ _⟩, ba _ _⟩
  · by_cases h2 : 64 < n
    · have hT := Lib.hid (show newS n = (⟨[], []⟩, 7) by rw [newS, if_pos (.inr h2)])
      go_enter Try.func22, Try.ntmps22
      go_wp2_with fail
      rw [hT.out]
      refine bodyPost_ret (v := .tuple #[.agg #[.slice none 0 0, .slice none 0 0], .int .i64 7]) (by simp [results, Try.results22, go_sem]) rfl ⟨_, rfl, ⟨_, _, rfl, Sl.none _ _, Sl.none _ _⟩, ba _ _⟩
    · obtain ⟨k, rfl⟩ := Int.eq_ofNat_of_zero_le (show 0 ≤ n by omega)
      have hT := Lib.hid (show newS (k : Int) = (⟨List.replicate k 0, []⟩, 0) by rw [newS, if_neg (by omega), Int.toNat_natCast])
      have hmk := mk_ints k (by omega)
      go_enter Try.func22, Try.ntmps22
      go_wp2_with fail
      rw [hT.out]
      have ho := own_zeros (w.alloc (.cells #[.slice (some ⟨w.heap.size + 1, 0, none⟩) k k, .slice none 0 0] 25)) k (by omega)
      simp only [World.size_alloc] at ho
      refine bodyPost_ret (v := .tuple #[.agg #[.slice (some ⟨w.heap.size + 1, 0, none⟩) k k, .slice none 0 0], .int .i64 0]) (by simp [results, Try.results22, go_sem]) rfl ⟨_, rfl, ⟨_, _, rfl, ho.sl, Sl.none _ _⟩, (ba _ _).alloc (by simp) _⟩

set_option maxHeartbeats 800000 in
theorem rmay_any (v1 v2 : Value) (s : St) (t l : Int) (w : World) (h1 : Sl intR w v1 s.hs) (h2 : Sl wtR w v2 s.ws) :
    Calls Try.prog 53 #[.agg #[v1, v2], .int .i64 t, .int .i64 l] w fun e w' => e = .returned (.int .i64 (mayE s t l)) ∧ Below w.heap.size w w' := by
  obtain ⟨A, c, rfl, hc, hm, h1⟩ := h1.open
  obtain ⟨A', c', rfl, _, hm', h2⟩ := h2.open
  have hl : s.hs.length ≤ 9223372036854775807 := by omega
  have C1 := Lib.hid (fun W (hb : Below w.heap.size w W) => rasked_any _ _ s t l W (h1.up hb) (h2.up hb))
  clear h2
  by_cases q1 : askd s t l = 0
  · obtain ⟨_, _, g0, g1⟩ := askd_ok q1
    obtain ⟨k, rfl⟩ := Int.eq_ofNat_of_zero_le g0
    have hk : k < s.hs.length := by omega
    have H1 := Lib.hid q1
    clear q1 g0 g1
    obtain ⟨b, off, rfl, hbl, e0, _⟩ := h1.atI hk
    have hget := Lib.hid (show s.hs.getD ((k : Int).toNat) 0 = s.hs[k] by rw [Int.toNat_natCast, List.getD_eq_getElem?_getD, List.getElem?_eq_getElem hk]; rfl)
    have HS := Lib.hid h1
    clear h1
    by_cases q2 : s.hs[k] = t
    · have q2' : (s.hs[k] == t) = true := by simpa using q2
      have H2 := Lib.hid q2
      clear q2
      go_enter Try.func53, Try.ntmps53
      go_wp2_with (go_at_call 55; refine (C1.out _ (ba _ _)).mono ?_; rw [H1.out]; rintro e w1 ⟨rfl, hb1⟩; have k0 := box_cell hb1 0 _ rfl; have m0 := cell_later ((ba _ _).trans (hb1.mono (by simp))) e0)
      go_ret
      exact ⟨ret_int (by rw [mayE, if_neg (by rw [H1.out]; simp), hget.out, if_pos H2.out]), (ba _ _).trans (hb1.mono (by simp))⟩
    · have q2' : (s.hs[k] == t) = false := by simpa using q2
      have H2 := Lib.hid q2
      clear q2
      go_enter Try.func53, Try.ntmps53
      go_wp2_with (go_at_call 55; refine (C1.out _ (ba _ _)).mono ?_; rw [H1.out]; rintro e w1 ⟨rfl, hb1⟩; have k0 := box_cell hb1 0 _ rfl; have m0 := cell_later ((ba _ _).trans (hb1.mono (by simp))) e0)
      have HB1 := Lib.hid ((ba w _).trans (hb1.mono (by simp)))
      clear hb1
      go_loop [8] (fun i => ∃ j : Nat, k < j ∧ j ≤ s.hs.length ∧ i = .int .i64 j ∧ Hid (∀ m, k < m → (hm : m < j) → (hm' : m < s.hs.length) → (t == s.hs[m]) = false)) (fun i => s.hs.length - (intOf i).toNat)
      case atStart => exact ⟨k + 1, by omega, by omega, by go_num, fun m h h' => by omega⟩
      case round =>
        obtain ⟨j, hkj, hj, rfl, hall⟩ := hrel
        by_cases hlt : j < s.hs.length
        · obtain ⟨b2, off2, he2, _, e2, _⟩ := (HS.out.up HB1.out).atI hlt
          injection he2 with he2
          injection he2 with he3 he4
          subst he3 he4
          by_cases q3 : s.hs[j] = t
          · have q3' : (s.hs[j] == t) = true := by simpa using q3
            have hhit := Lib.hid (any_hit (p := fun x => t == x) (l := s.hs.drop k) (k := j - k) (by simp; omega) (by simp [show k + (j - k) = j by omega, q3]))
            clear q3
            go_wp2_with fail
            go_ret
            exact ⟨ret_int (by rw [mayE, if_neg (by rw [H1.out]; simp), hget.out, if_neg H2.out, Int.toNat_natCast, hhit.out]; rfl), HB1.out⟩
          · have q3' : (s.hs[j] == t) = false := by simpa using q3
            have hno := Lib.hid (show (t == s.hs[j]) = false from beq_eq_false_iff_ne.2 fun e => q3 e.symm)
            clear q3
            go_wp2_with fail
            go_round
            case rel =>
              refine ⟨j + 1, by omega, by omega, by go_num, fun m h h' h'' => ?_⟩
              by_cases e : m = j
              · subst e; exact hno.out
              · exact hall.out m h (by omega) h''
            case measure => simp [intOf]; omega
        · have hmiss := Lib.hid (any_miss (p := fun x => t == x) (l := s.hs.drop k) (k := s.hs.length - k) (by simp) (fun m h h' => by
            simp only [List.getElem_drop]
            by_cases e : m = 0
            · subst e; exact beq_eq_false_iff_ne.2 fun e => H2.out e.symm
            · exact hall.out (k + m) (by omega) (by omega) _))
          go_wp2_with fail
          go_ret
          exact ⟨ret_int (by rw [mayE, if_neg (by rw [H1.out]; simp), hget.out, if_neg H2.out, Int.toNat_natCast, hmiss.out]; rfl), HB1.out⟩
  · have hn : (askd s t l != 0) = true := by simpa using q1
    have H1 := Lib.hid q1
    clear q1
    go_enter Try.func53, Try.ntmps53
    go_wp2_with (go_at_call 55; refine (C1.out _ (ba _ _)).mono ?_; rintro e w1 ⟨rfl, hb1⟩; have k0 := box_cell hb1 0 _ rfl)
    go_ret
    exact ⟨ret_int (by rw [mayE, if_pos H1.out]), (ba _ _).trans (hb1.mono (by simp))⟩

theorem drop_snoc (t : Int) (l : List Wt) (k : Nat) (hk : k < l.length) : drop_ t (l.take (k + 1)) = drop_ t (l.take k) ++ if (l[k].task != t) = true then [l[k]] else [] := by
  rw [List.take_succ_eq_append_getElem hk, drop_, List.filter_append]
  simp only [List.filter_cons, List.filter_nil]
  rfl
theorem drop_len (t : Int) (l : List Wt) : (drop_ t l).length ≤ l.length := List.length_filter_le _ _
theorem own_wt (w : World) (g : Nat) (x : Wt) (hg : g = w.heap.size) (h0 : Bd x.task) (h1 : Bd x.lock) : Own wtR 33 w.heap.size (w.alloc (.cells #[.int .i64 x.task, .int .i64 x.lock] 33)) (.slice (some ⟨g, 0, none⟩) 1 1) [x] :=
  Own.lit (e := 33) (n := 1) (cells := [.int .i64 x.task, .int .i64 x.lock]) (xs := [x]) hg (by omega) (many_cons (cs := [.int .i64 x.task, .int .i64 x.lock]) (rest := []) ⟨rfl, h0, h1⟩ rfl) rfl (by omega)

set_option maxHeartbeats 800000 in
theorem without_any (v : Value) (ws : List Wt) (t : Int) (w : World) (h : Sl wtR w v ws) (hz : ws.length ≤ 1000) :
    Calls Try.prog 54 #[v, .int .i64 t] w fun e w' => ∃ v', e = .returned v' ∧ Own wtR 33 w.heap.size w' v' (drop_ t ws) ∧ Below w.heap.size w w' := by
  obtain ⟨A, c, rfl, hc, hm, h⟩ := h.open
  have HS := Lib.hid h
  clear h
  go_enter Try.func54, Try.ntmps54
  go_wp2_with fail
  go_loopw [5, 6] (fun v i wr => ∃ k : Nat, k ≤ ws.length ∧ i = .int .i64 k ∧ Hid (Below w.heap.size w wr) ∧ Hid (Own wtR 33 w.heap.size wr v (drop_ t (ws.take k)))) (fun _ i _ => ws.length - (intOf i).toNat)
  case atStart => exact ⟨0, by omega, rfl, Below.refl _ _, Own.nil _ _ _ _⟩
  case round =>
    obtain ⟨k, hk, rfl, hb, hown⟩ := hrel
    by_cases hlt : k < ws.length
    · obtain ⟨b, off, rfl, hbl, e0, e1, b0, b1⟩ := (HS.out.up hb.out).atW hlt
      have hps := Lib.hid (drop_snoc t ws k hlt)
      have hpl := drop_len t (ws.take k)
      rw [List.length_take] at hpl
      cases q3 : (ws[k].task != t) with
      | false =>
        have H3 := Lib.hid q3
        go_wp2_with fail
        go_roundw
        case rel => exact ⟨k + 1, by omega, by go_num, hb, by have h1 := hown.out; have h2 := hps.out; rw [H3.out] at h2; simp at h2; rw [← h2] at h1; exact h1⟩
        case measure => simp [intOf]; omega
      | true =>
        have H3 := Lib.hid q3
        go_wp2_with (at_builtin; refine wpList_append_sl _ rfl (.tmp 20) (.tmp 25) 23 rfl wtR w.heap.size 33 _ 16 Try.underlying23 infoW rfl (by decide) _ (drop_ t (ws.take k)) rfl (hown.out.up (ba _ _)) _ [ws[k]] rfl (own_wt _ _ _ rfl b0 b1).sl (by simp; omega) (by decide) (by simp; exact Nat.le_succ_of_le hb.out.size) (fun w' _ cs y h => wtR_flat _ _ _ _ h) ?_; intro v1 w2 hown1 hg1 hat1)
        go_roundw
        case rel =>
          refine ⟨k + 1, by omega, by go_num, ?_, ?_⟩
          · exact (hb.out.trans ((ba wr _).mono hb.out.size)).grown hg1 (by simp; exact Nat.le_succ_of_le hb.out.size) fun j hj => ((hown.out.lt j hj)).1
          · have h2 := hps.out
            rw [H3.out] at h2
            simp at h2
            show Own _ _ _ _ _ _
            rw [h2]
            exact hown1
        case measure => simp [intOf]; omega
    · have hke : k = ws.length := by omega
      have HK := Lib.hid hke
      clear hke
      go_wp2_with fail
      go_ret
      refine ⟨_, rfl, ?_, hb.out⟩
      have := hown.out
      rw [HK.out, List.take_length] at this
      exact this
end Go.Proofs.Ytgmjfmajdnoogaa
