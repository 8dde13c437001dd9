/-
  Walks of the document's answer for locks, fourth part (package groundlingref14): after, Held, Blocked. Conditions: as each theorem says.
-/
import Derived.Test.YtgmjfmajdnoogaaLkN
import Derived.Test.YtgmjfmajdnoogaaLkJ
namespace Go.Proofs.Ytgmjfmajdnoogaa
open Go.RowKit

set_option maxHeartbeats 1000000 in
theorem rafter_any (v1 v2 : Value) (s : St) (t : Int) (w : World) (h1 : Sl intR w v1 s.hs) (h2 : Sl wtR w v2 s.ws) (hin : ∀ k, (h : k < s.ws.length) → 0 ≤ s.ws[k].lock ∧ s.ws[k].lock < s.hs.length) :
    Calls Try.prog 56 #[.agg #[v1, v2], .int .i64 t] w fun e w' => e = .returned (.int .i64 (aft s t)) ∧ Below w.heap.size w w' := by
  obtain ⟨A, c, rfl, hc, hm, h1⟩ := h1.open
  obtain ⟨A', c', rfl, _, hm', h2⟩ := h2.open
  have hl : s.hs.length ≤ 9223372036854775807 := by omega
  have hl' : s.ws.length ≤ 9223372036854775807 := by omega
  have HS1 := Lib.hid h1
  have HS2 := Lib.hid h2
  have HI := Lib.hid hin
  clear h1 h2 hin
  go_enter Try.func56, Try.ntmps56
  go_wp2_with fail
  go_loop [5] (fun i => ∃ k : Nat, k ≤ s.ws.length ∧ i = .int .i64 k ∧ Hid (∀ j, (hj : j < k) → (hj' : j < s.ws.length) → (s.ws[j].task == t) = false)) (fun i => s.ws.length - (intOf i).toNat)
  case atStart => exact ⟨0, by omega, rfl, fun j hj => by omega⟩
  case round =>
    obtain ⟨k, hk, rfl, hall⟩ := hrel
    by_cases hlt : k < s.ws.length
    · obtain ⟨b', off', rfl, hbl', d0, d1, bd0, _⟩ := HS2.out.atW hlt
      obtain ⟨g0, g1⟩ := HI.out k hlt
      obtain ⟨l, hle⟩ := Int.eq_ofNat_of_zero_le g0
      have hll : l < s.hs.length := by omega
      obtain ⟨b, off, rfl, hbl, e0, _⟩ := HS1.out.atI hll
      rw [hle] at d1
      have HL := Lib.hid hle
      clear hle g0 g1
      cases q : (s.ws[k].task == t) with
      | true =>
        have HQ := Lib.hid q
        go_wp2_with fail
        go_quiet (fail)
        go_wp2_with fail
        go_ret
        refine ⟨ret_int ?_, bdN (ba _ _) _⟩
        have hf : s.ws.find? (fun x => x.task == t) = some s.ws[k] := by
          rw [List.find?_eq_some_iff_getElem]
          exact ⟨HQ.out, k, hlt, rfl, fun j hj => by rw [hall.out j hj (by omega)]; rfl⟩
        rw [aft, hf]
        show s.hs[l] = s.hs.getD s.ws[k].lock.toNat 0
        rw [HL.out, Int.toNat_natCast, List.getD_eq_getElem?_getD, List.getElem?_eq_getElem hll]
        rfl
      | false =>
        have HQ := Lib.hid q
        go_wp2_with fail
        go_round
        case rel =>
          refine ⟨k + 1, by omega, by go_num, fun j hj hj' => ?_⟩
          by_cases e : j = k
          · subst e; exact HQ.out
          · exact hall.out j (by omega) hj'
        case measure => simp [intOf]; omega
    · go_wp2_with fail
      go_ret
      refine ⟨ret_int ?_, ba _ _⟩
      have hf : s.ws.find? (fun x => x.task == t) = none := by
        rw [List.find?_eq_none]
        intro x hx
        obtain ⟨j, hj, rfl⟩ := List.getElem_of_mem hx
        rw [hall.out j (by omega) hj]
        simp
      rw [aft, hf]

set_option maxHeartbeats 1000000 in
theorem rheld_any (v1 v2 : Value) (s : St) (t : Int) (w : World) (h1 : Sl intR w v1 s.hs) (h2 : Sl wtR w v2 s.ws) :
    Calls Try.prog 38 #[.agg #[v1, v2], .int .i64 t] w fun e w' => ∃ v, e = .returned (.tuple #[v, .int .i64 (heldS s t).2]) ∧ Sl intR w' v (heldS s t).1 ∧ Below w.heap.size w w' := by
  obtain ⟨A, c, rfl, hc, hm, h1⟩ := h1.open
  obtain ⟨A', c', rfl, _, hm', h2⟩ := h2.open
  have hl : s.hs.length ≤ 9223372036854775807 := by omega
  have C1 := Lib.hid (fun W (hb : Below w.heap.size w W) => rcheck_any _ _ s W (h1.up hb) (h2.up hb))
  by_cases q1 : chk s = 0
  · obtain ⟨z1, z2, _⟩ := chk_ok q1
    have H1 := Lib.hid q1
    clear q1 h2
    by_cases a1 : t < 1
    · have hT := Lib.hid (show heldS s t = ([], 7) by rw [heldS, if_neg (by rw [H1.out]; simp), if_neg (by simp [tsk]; omega)])
      go_enter Try.func38, Try.ntmps38
      go_wp2_with (go_at_call 42; refine (C1.out _ (ba _ _)).mono ?_; rw [H1.out]; rintro e w1 ⟨rfl, hb1⟩)
      go_ret2
      rw [hT.out]
      exact ⟨_, rfl, Sl.none _ _, (ba _ _).trans (hb1.mono (by simp))⟩
    by_cases a2 : 200 < t
    · have hT := Lib.hid (show heldS s t = ([], 7) by rw [heldS, if_neg (by rw [H1.out]; simp), if_neg (by simp [tsk]; omega)])
      go_enter Try.func38, Try.ntmps38
      go_wp2_with (go_at_call 42; refine (C1.out _ (ba _ _)).mono ?_; rw [H1.out]; rintro e w1 ⟨rfl, hb1⟩)
      go_ret2
      rw [hT.out]
      exact ⟨_, rfl, Sl.none _ _, (ba _ _).trans (hb1.mono (by simp))⟩
    have hT := Lib.hid (show heldS s t = (places t s.hs 0, 0) by rw [heldS, if_neg (by rw [H1.out]; simp), if_pos (by simp [tsk]; omega)])
    have HS := Lib.hid h1
    clear h1
    go_enter Try.func38, Try.ntmps38
    go_wp2_with (go_at_call 42; refine (C1.out _ (ba _ _)).mono ?_; rw [H1.out]; rintro e w1 ⟨rfl, hb1⟩; have k0 := box_cell hb1 0 _ rfl)
    have HB1 := Lib.hid ((ba w _).trans (hb1.mono (by simp)))
    have hz1 := box_lt hb1
    clear hb1
    go_loopw [7, 8] (fun v i wr => ∃ k : Nat, k ≤ s.hs.length ∧ i = .int .i64 k ∧ Hid (Below w1.heap.size w1 wr) ∧ Hid (Own intR 3 w1.heap.size wr v (places t (s.hs.take k) 0))) (fun _ i _ => s.hs.length - (intOf i).toNat)
    case atStart => exact ⟨0, by omega, rfl, Below.refl _ _, Own.nil _ _ _ _⟩
    case round =>
      obtain ⟨k, hk, rfl, hb, hown⟩ := hrel
      have HBw := Lib.hid (HB1.out.trans (hb.out.mono HB1.out.size))
      have l0 := cell_later hb.out k0
      have hzr : w.heap.size < wr.heap.size := Nat.lt_of_lt_of_le hz1 hb.out.size
      by_cases hlt : k < s.hs.length
      · obtain ⟨b, off, rfl, hbl, e0, _⟩ := (HS.out.up HBw.out).atI hlt
        have hps := Lib.hid (places_snoc t s.hs k hlt)
        have hpl := places_len t (s.hs.take k) 0
        rw [List.length_take] at hpl
        cases q3 : (s.hs[k] == t) with
        | false =>
          have H3 := Lib.hid q3
          go_wp2_with fail
          go_roundw
          case rel => exact ⟨k + 1, by omega, by go_num, hb, by have h1 := hown.out; have h2 := hps.out; rw [H3.out] at h2; simp at h2; rw [← h2] at h1; exact h1⟩
          case measure => simp [intOf]; omega
        | true =>
          have H3 := Lib.hid q3
          go_wp2_with (at_builtin; refine wpList_append_sl _ rfl (.tmp 38) (.tmp 40) 22 rfl intR w1.heap.size 3 _ 8 Try.underlying22 infoI rfl (by decide) _ (places t (s.hs.take k) 0) rfl (hown.out.up (ba _ _)) _ [(k : Int)] rfl (sl_one _ _ _ _ rfl (by unfold Bd; omega)) (by simp; omega) (by decide) (by simp; exact Nat.le_succ_of_le hb.out.size) (fun w' _ cs y h => intR_flat _ _ _ _ h) ?_; intro v1 w2 hown1 hg1 hat1)
          go_roundw
          case rel =>
            refine ⟨k + 1, by omega, by go_num, ?_, ?_⟩
            · exact (hb.out.trans ((ba wr _).mono hb.out.size)).grown hg1 (by simp; exact Nat.le_succ_of_le hb.out.size) fun j hj => ((hown.out.lt j hj)).1
            · have h2 := hps.out
              rw [H3.out] at h2
              simp at h2
              show Own _ _ _ _ _ _
              rw [h2]
              exact hown1
          case measure => simp [intOf]; omega
      · have hke : k = s.hs.length := by omega
        have HK := Lib.hid hke
        clear hke
        go_wp2_with fail
        go_ret2
        rw [hT.out]
        refine ⟨_, rfl, ?_, HBw.out⟩
        have h1 := hown.out
        rw [HK.out, List.take_length] at h1
        exact h1.sl
  · have hn : (chk s != 0) = true := by simpa using q1
    have hn' : (chk s == 0) = false := by simpa using q1
    have hT := Lib.hid (show heldS s t = ([], chk s) by rw [heldS, if_pos q1])
    clear q1 h1 h2
    go_enter Try.func38, Try.ntmps38
    go_wp2_with (go_at_call 42; refine (C1.out _ (ba _ _)).mono ?_; rintro e w1 ⟨rfl, hb1⟩)
    go_ret2
    rw [hT.out]
    exact ⟨_, rfl, Sl.none _ _, (ba _ _).trans (hb1.mono (by simp))⟩

set_option maxHeartbeats 1000000 in
theorem rblocked_any (v1 v2 : Value) (s : St) (w : World) (h1 : Sl intR w v1 s.hs) (h2 : Sl wtR w v2 s.ws) :
    Calls Try.prog 40 #[.agg #[v1, v2]] w fun e w' => ∃ v, e = .returned (.tuple #[v, .int .i64 (blockedS s).2]) ∧ Sl intR w' v (blockedS s).1 ∧ Below w.heap.size w w' := by
  obtain ⟨A, c, rfl, hc, hm, h1⟩ := h1.open
  obtain ⟨A', c', rfl, _, hm', h2⟩ := h2.open
  have hl : s.hs.length ≤ 9223372036854775807 := by omega
  have C1 := Lib.hid (fun W (hb : Below w.heap.size w W) => rcheck_any _ _ s W (h1.up hb) (h2.up hb))
  by_cases q1 : chk s = 0
  · obtain ⟨z1, z2, _⟩ := chk_ok q1
    have H1 := Lib.hid q1
    have hT := Lib.hid (show blockedS s = ((s.ws.filter (blk s)).map (·.task), 0) by rw [blockedS, if_neg (by rw [H1.out]; simp)])
    have HS1 := Lib.hid h1
    have HS2 := Lib.hid h2
    clear q1 h1 h2
    go_enter Try.func40, Try.ntmps40
    go_wp2_with (go_at_call 42; refine (C1.out _ (ba _ _)).mono ?_; rw [H1.out]; rintro e w1 ⟨rfl, hb1⟩; have k0 := box_cell hb1 0 _ rfl; have k1 := box_cell hb1 1 _ rfl)
    have hz1 := box_lt hb1
    have HB1 := Lib.hid ((ba w _).trans (hb1.mono (by simp)))
    clear hb1
    go_loopw [5, 6] (fun v i wr => ∃ k : Nat, k ≤ s.ws.length ∧ i = .int .i64 k ∧ Hid (Below w1.heap.size w1 wr) ∧ Hid (Own intR 3 w1.heap.size wr v (((s.ws.take k).filter (blk s)).map (·.task)))) (fun _ i _ => s.ws.length - (intOf i).toNat)
    case atStart => exact ⟨0, by omega, rfl, Below.refl _ _, Own.nil _ _ _ _⟩
    case round =>
      obtain ⟨k, hk, rfl, hb, hown⟩ := hrel
      have HBw := Lib.hid (HB1.out.trans (hb.out.mono HB1.out.size))
      by_cases hlt : k < s.ws.length
      · obtain ⟨b', off', rfl, hbl', d0, d1, bd0, _⟩ := (HS2.out.up HBw.out).atW hlt
        obtain ⟨_, g0, g1⟩ := lock_in H1.out hlt
        obtain ⟨l, hle⟩ := Int.eq_ofNat_of_zero_le g0
        have hll : l < s.hs.length := by omega
        obtain ⟨b, off, rfl, hbl, e0, _⟩ := (HS1.out.up HBw.out).atI hll
        rw [hle] at d1
        have hps := Lib.hid (show ((s.ws.take (k + 1)).filter (blk s)).map (·.task) = ((s.ws.take k).filter (blk s)).map (·.task) ++ if s.hs[l] != 0 then [s.ws[k].task] else [] by
          rw [List.take_succ_eq_append_getElem hlt, List.filter_append, List.map_append]
          have : blk s s.ws[k] = (s.hs[l] != 0) := by rw [blk, hle, Int.toNat_natCast, List.getD_eq_getElem?_getD, List.getElem?_eq_getElem hll]; rfl
          simp only [List.filter_cons, List.filter_nil, this]
          split <;> rfl)
        have hpl : ((s.ws.take k).filter (blk s)).length ≤ s.ws.length := by
          exact Nat.le_trans (List.length_filter_le _ _) (by rw [List.length_take]; omega)
        have l0 := cell_later hb.out k0
        have l1 := cell_later hb.out k1
        have hzr : w.heap.size < wr.heap.size := Nat.lt_of_lt_of_le hz1 hb.out.size
        clear hle g0 g1
        cases q3 : (s.hs[l] != 0) with
        | false =>
          have H3 := Lib.hid q3
          go_wp2_with fail
          go_quiet (fail)
          go_wp2_with fail
          go_roundw
          case rel => exact ⟨k + 1, by omega, by go_num, bdN hb.out _, by have h1 := hown.out; have h2 := hps.out; rw [H3.out] at h2; simp at h2; show Own _ _ _ _ _ _; rw [h2]; exact h1.up (bdN (Below.refl _ _) _)⟩
          case measure => simp [intOf]; omega
        | true =>
          have H3 := Lib.hid q3
          go_wp2_with fail
          go_quiet (fail)
          generalize hwq : wr.drewN nq = wq
          have hb2 := Lib.hid (show Below w1.heap.size w1 wq from hwq ▸ bdN hb.out nq)
          have ho2 := Lib.hid (show Own intR 3 w1.heap.size wq _ _ from hwq ▸ hown.out.up (bdN (Below.refl _ _) nq))
          have l0' : wq.cell? _ = _ := cell_later hb2.out k0
          have l1' : wq.cell? _ = _ := cell_later hb2.out k1
          have hzq : w.heap.size < wq.heap.size := Nat.lt_of_lt_of_le hz1 hb2.out.size
          obtain ⟨b2, off2, he2, _, d2, _, _, _⟩ := (HS2.out.up (HB1.out.trans (hb2.out.mono HB1.out.size))).atW hlt
          injection he2 with he2
          injection he2 with he3 he4
          subst he3 he4
          clear l0 l1 d0 d1 e0 hb hown
          go_wp2_with (at_builtin; refine wpList_append_sl _ rfl (.tmp 30) (.tmp 37) 22 rfl intR w1.heap.size 3 _ 8 Try.underlying22 infoI rfl (by decide) _ (((s.ws.take k).filter (blk s)).map (·.task)) rfl (ho2.out.up (ba _ _)) _ [s.ws[k].task] rfl (sl_one _ _ _ _ rfl bd0) (by rw [List.length_map, List.length_singleton]; omega) (by decide) (by simp; exact Nat.le_succ_of_le hb2.out.size) (fun w' _ cs y h => intR_flat _ _ _ _ h) ?_; intro v1 w2 hown1 hg1 hat1)
          go_roundw
          case rel =>
            refine ⟨k + 1, by omega, by go_num, ?_, ?_⟩
            · exact (hb2.out.trans ((ba _ _).mono hb2.out.size)).grown hg1 (by simp; exact Nat.le_succ_of_le hb2.out.size) fun j hj => ((ho2.out.lt j hj)).1
            · have h2 := hps.out
              rw [H3.out] at h2
              simp only [if_true] at h2
              show Own _ _ _ _ _ _
              rw [h2]
              exact hown1
          case measure => simp [intOf]; omega
      · have hke : k = s.ws.length := by omega
        have HK := Lib.hid hke
        clear hke
        have l0 := cell_later hb.out k0
        have l1 := cell_later hb.out k1
        have hzr : w.heap.size < wr.heap.size := Nat.lt_of_lt_of_le hz1 hb.out.size
        go_wp2_with fail
        go_ret2
        rw [hT.out]
        refine ⟨_, rfl, ?_, HBw.out⟩
        have h1 := hown.out
        rw [HK.out, List.take_length] at h1
        exact h1.sl
  · have hn : (chk s != 0) = true := by simpa using q1
    have hT := Lib.hid (show blockedS s = ([], chk s) by rw [blockedS, if_pos q1])
    clear q1 h1 h2
    go_enter Try.func40, Try.ntmps40
    go_wp2_with (go_at_call 42; refine (C1.out _ (ba _ _)).mono ?_; rintro e w1 ⟨rfl, hb1⟩)
    go_ret2
    rw [hT.out]
    exact ⟨_, rfl, Sl.none _ _, (ba _ _).trans (hb1.mono (by simp))⟩

end Go.Proofs.Ytgmjfmajdnoogaa
