/-
  Walks of locks.Blocked, groundlingref14.SameInts, groundlinglaw14.holder, groundlinglaw14.example. Conditions: as each theorem says.
-/
import Derived.Test.YtgmjfmajdnoogaaLkI
namespace Go.Proofs.Ytgmjfmajdnoogaa
open Go.RowKit

def blk (s : St) (x : Wt) : Bool := s.hs.getD x.lock.toNat 0 != 0
def blockedS (s : St) : List Int × Int := if chk s ≠ 0 then ([], chk s) else ((s.ws.filter (blk s)).map (·.task), 0)

theorem badW_false {n : Nat} {x : Wt} (h : badW n x = false) : tsk x.task = true ∧ 0 ≤ x.lock ∧ x.lock < n := by
  simp only [badW, Bool.or_eq_false_iff, Bool.not_eq_false', decide_eq_false_iff_not] at h
  exact ⟨h.1, by omega, by omega⟩

/-- A state that Check lets by: each wait's lock is there. -/
theorem lock_in {s : St} (h : chk s = 0) {k : Nat} (hk : k < s.ws.length) : tsk s.ws[k].task = true ∧ 0 ≤ s.ws[k].lock ∧ s.ws[k].lock < s.hs.length := by
  obtain ⟨_, _, _, h4, _⟩ := chk_ok h
  have := List.any_eq_false.1 h4 s.ws[k] (List.getElem_mem hk)
  exact badW_false (by simpa using this)

set_option maxHeartbeats 1000000 in
theorem blocked_any (v1 v2 : Value) (s : St) (w : World) (h1 : Sl intR w v1 s.hs) (h2 : Sl wtR w v2 s.ws) :
    Calls Try.prog 16 #[.agg #[v1, v2]] w fun e w' => ∃ v, e = .returned (.tuple #[v, .int .i64 (blockedS s).2]) ∧ Sl intR w' v (blockedS s).1 ∧ Below w.heap.size w w' := by
  obtain ⟨A, c, rfl, hc, hm, h1⟩ := h1.open
  obtain ⟨A', c', rfl, _, hm', h2⟩ := h2.open
  have hl : s.hs.length ≤ 9223372036854775807 := by omega
  have C1 := Lib.hid (fun W (hb : Below w.heap.size w W) => check_any _ _ s W (h1.up hb) (h2.up hb))
  by_cases q1 : chk s = 0
  · obtain ⟨z1, z2, _⟩ := chk_ok q1
    have H1 := Lib.hid q1
    have hT := Lib.hid (show blockedS s = ((s.ws.filter (blk s)).map (·.task), 0) by rw [blockedS, if_neg (by rw [H1.out]; simp)])
    have HS1 := Lib.hid h1
    have HS2 := Lib.hid h2
    clear q1 h1 h2
    go_enter Try.func16, Try.ntmps16
    go_wp2_with (go_at_call 11; refine (C1.out _ (ba _ _)).mono ?_; rw [H1.out]; rintro e w1 ⟨rfl, hb1⟩; have k0 := box_cell hb1 0 _ rfl; have k1 := box_cell hb1 1 _ rfl)
    have hz1 := box_lt hb1
    have HB1 := Lib.hid ((ba w _).trans (hb1.mono (by simp)))
    clear hb1
    go_loopw [5, 16] (fun v i wr => ∃ k : Nat, k ≤ s.ws.length ∧ i = .int .i64 k ∧ Hid (Below w1.heap.size w1 wr) ∧ Hid (Own intR 3 w1.heap.size wr v (((s.ws.take k).filter (blk s)).map (·.task)))) (fun _ i _ => s.ws.length - (intOf i).toNat)
    case atStart => exact ⟨0, by omega, rfl, Below.refl _ _, Own.nil _ _ _ _⟩
    case round =>
      obtain ⟨k, hk, rfl, hb, hown⟩ := hrel
      have HBw := Lib.hid (HB1.out.trans (hb.out.mono HB1.out.size))
      by_cases hlt : k < s.ws.length
      · obtain ⟨b', off', rfl, hbl', d0, d1, bd0, _⟩ := (HS2.out.up HBw.out).atW hlt
        obtain ⟨_, g0, g1⟩ := lock_in H1.out hlt
        obtain ⟨l, hle⟩ := Int.eq_ofNat_of_zero_le g0
        have hll : l < s.hs.length := by omega
        obtain ⟨b, off, rfl, hbl, e0, _⟩ := (HS1.out.up HBw.out).atI hll
        rw [hle] at d1
        have hps := Lib.hid (show ((s.ws.take (k + 1)).filter (blk s)).map (·.task) = ((s.ws.take k).filter (blk s)).map (·.task) ++ if s.hs[l] != 0 then [s.ws[k].task] else [] by
          rw [List.take_succ_eq_append_getElem hlt, List.filter_append, List.map_append]
          have : blk s s.ws[k] = (s.hs[l] != 0) := by rw [blk, hle, Int.toNat_natCast, List.getD_eq_getElem?_getD, List.getElem?_eq_getElem hll]; rfl
          simp only [List.filter_cons, List.filter_nil, this]
          split <;> rfl)
        have hpl : ((s.ws.take k).filter (blk s)).length ≤ s.ws.length := by
          exact Nat.le_trans (List.length_filter_le _ _) (by rw [List.length_take]; omega)
        have l0 := cell_later hb.out k0
        have l1 := cell_later hb.out k1
        have hzr : w.heap.size < wr.heap.size := Nat.lt_of_lt_of_le hz1 hb.out.size
        clear hle g0 g1
        cases q3 : (s.hs[l] != 0) with
        | false =>
          have H3 := Lib.hid q3
          go_wp2_with fail
          go_roundw
          case rel => exact ⟨k + 1, by omega, by go_num, hb.out.trans ((ba wr _).mono hb.out.size), by have h1 := hown.out; have h2 := hps.out; rw [H3.out] at h2; simp at h2; show Own _ _ _ _ _ _; rw [h2]; exact h1.up (ba _ _)⟩
          case measure => simp [intOf]; omega
        | true =>
          have H3 := Lib.hid q3
          go_wp2_with (at_builtin; refine wpList_append_sl _ rfl (.tmp 27) (.tmp 30) 22 rfl intR w1.heap.size 3 _ 8 Try.underlying22 infoI rfl (by decide) _ (((s.ws.take k).filter (blk s)).map (·.task)) rfl ((hown.out.up (ba _ _)).up (ba _ _)) _ [s.ws[k].task] rfl (sl_one _ _ _ _ (by simp) bd0) (by rw [List.length_map, List.length_singleton]; omega) (by decide) (by simp; exact Nat.le_succ_of_le (Nat.le_succ_of_le hb.out.size)) (fun w' _ cs y h => intR_flat _ _ _ _ h) ?_; intro v1 w2 hown1 hg1 hat1)
          go_roundw
          case rel =>
            refine ⟨k + 1, by omega, by go_num, ?_, ?_⟩
            · exact ((hb.out.trans ((ba wr _).mono hb.out.size)).trans ((ba _ _).mono (by simp; exact Nat.le_succ_of_le hb.out.size))).grown hg1 (by simp; exact Nat.le_succ_of_le (Nat.le_succ_of_le hb.out.size)) fun j hj => ((hown.out.lt j hj)).1
            · have h2 := hps.out
              rw [H3.out] at h2
              simp only [if_true] at h2
              show Own _ _ _ _ _ _
              rw [h2]
              exact hown1
          case measure => simp [intOf]; omega
      · have hke : k = s.ws.length := by omega
        have HK := Lib.hid hke
        clear hke
        go_wp2_with fail
        go_ret2
        rw [hT.out]
        refine ⟨_, rfl, ?_, HBw.out⟩
        have h1 := hown.out
        rw [HK.out, List.take_length] at h1
        exact h1.sl
  · have hn : (chk s != 0) = true := by simpa using q1
    have hT := Lib.hid (show blockedS s = ([], chk s) by rw [blockedS, if_pos q1])
    clear q1 h1 h2
    go_enter Try.func16, Try.ntmps16
    go_wp2_with (go_at_call 11; refine (C1.out _ (ba _ _)).mono ?_; rintro e w1 ⟨rfl, hb1⟩)
    go_ret2
    rw [hT.out]
    exact ⟨_, rfl, Sl.none _ _, (ba _ _).trans (hb1.mono (by simp))⟩

set_option maxHeartbeats 400000 in
theorem sameInts_any (v v' : Value) (xs ys : List Int) (w : World) (h : Sl intR w v xs) (h' : Sl intR w v' ys) :
    Calls Try.prog 19 #[v, v'] w fun e w' => e = .returned (.bool (decide (xs = ys))) ∧ ∃ n, w' = w.drewN n := by
  obtain ⟨A, c, rfl, _, hm, h⟩ := h.open
  obtain ⟨A', c', rfl, _, hm', h'⟩ := h'.open
  have hl : xs.length ≤ 9223372036854775807 := by omega
  have hl' : ys.length ≤ 9223372036854775807 := by omega
  by_cases hne : xs.length = ys.length
  · have hneq : ((xs.length : Int) != ys.length) = false := by simp [hne]
    have HE := Lib.hid hne
    have HS := Lib.hid h
    have HS' := Lib.hid h'
    clear hne h h'
    go_enter Try.func19, Try.ntmps19
    go_wp2_with fail
    go_loopw [5] (fun i wr => ∃ k n : Nat, k ≤ xs.length ∧ i = .int .i64 k ∧ wr = w.drewN n ∧ Hid (xs.take k = ys.take k)) (fun i _ => xs.length - (intOf i).toNat)
    case atStart => exact ⟨0, 0, by omega, rfl, rfl, rfl⟩
    case round =>
      obtain ⟨k, n, hk, rfl, rfl, htk⟩ := hrel
      by_cases hlt : k < xs.length
      · have hlt' : k < ys.length := by have := HE.out; omega
        obtain ⟨b, off, rfl, hbl, e0, _⟩ := HS.out.atI hlt
        obtain ⟨b', off', rfl, hbl', e1, _⟩ := HS'.out.atI hlt'
        cases q : (xs[k] != ys[k]) with
        | true =>
          have hq := Lib.hid (show xs ≠ ys by rintro rfl; simp at q)
          go_wp2_with fail
          go_quiet (fail)
          go_wp2_with fail
          go_ret
          exact ⟨ret_bool (by simp [hq.out]), n + nq, by simp⟩
        | false =>
          have hq := Lib.hid (show xs[k] = ys[k] by simpa using q)
          go_wp2_with fail
          go_quiet (fail)
          go_wp2_with fail
          go_roundw
          case rel => exact ⟨k + 1, _, by omega, by go_num, rfl, by show xs.take (k + 1) = ys.take (k + 1); rw [List.take_succ_eq_append_getElem hlt, List.take_succ_eq_append_getElem hlt', htk.out, hq.out]⟩
          case measure => simp [intOf]; omega
      · have hke := Lib.hid (show k = xs.length by omega)
        go_wp2_with fail
        go_ret
        refine ⟨ret_bool ?_, _, rfl⟩
        have h1 := htk.out
        rw [hke.out, List.take_length, HE.out, List.take_length] at h1
        simp [h1]
  · have hneq : ((xs.length : Int) != ys.length) = true := by simp; omega
    have hq := Lib.hid (show xs ≠ ys by rintro rfl; simp at hne)
    clear hne
    go_enter Try.func19, Try.ntmps19
    go_wp2_with fail
    go_ret
    exact ⟨ret_bool (by simp [hq.out]), 0, rfl⟩

/-- Who holds what a task waits for; 0: nobody. -/
def aft (s : St) (t : Int) : Int := match s.ws.find? (fun x => x.task == t) with
  | some x => s.hs.getD x.lock.toNat 0
  | none => 0

set_option maxHeartbeats 1000000 in
theorem holder_any (v1 v2 : Value) (s : St) (t : Int) (w : World) (h1 : Sl intR w v1 s.hs) (h2 : Sl wtR w v2 s.ws) (hin : ∀ k, (h : k < s.ws.length) → 0 ≤ s.ws[k].lock ∧ s.ws[k].lock < s.hs.length) :
    Calls Try.prog 12 #[.agg #[v1, v2], .int .i64 t] w fun e w' => e = .returned (.int .i64 (aft s t)) ∧ Below w.heap.size w w' := by
  obtain ⟨A, c, rfl, hc, hm, h1⟩ := h1.open
  obtain ⟨A', c', rfl, _, hm', h2⟩ := h2.open
  have hl : s.hs.length ≤ 9223372036854775807 := by omega
  have hl' : s.ws.length ≤ 9223372036854775807 := by omega
  have HS1 := Lib.hid h1
  have HS2 := Lib.hid h2
  have HI := Lib.hid hin
  clear h1 h2 hin
  go_enter Try.func12, Try.ntmps12
  go_wp2_with fail
  go_loop [5] (fun i => ∃ k : Nat, k ≤ s.ws.length ∧ i = .int .i64 k ∧ Hid (∀ j, (hj : j < k) → (hj' : j < s.ws.length) → (s.ws[j].task == t) = false)) (fun i => s.ws.length - (intOf i).toNat)
  case atStart => exact ⟨0, by omega, rfl, fun j hj => by omega⟩
  case round =>
    obtain ⟨k, hk, rfl, hall⟩ := hrel
    by_cases hlt : k < s.ws.length
    · obtain ⟨b', off', rfl, hbl', d0, d1, bd0, _⟩ := HS2.out.atW hlt
      obtain ⟨g0, g1⟩ := HI.out k hlt
      obtain ⟨l, hle⟩ := Int.eq_ofNat_of_zero_le g0
      have hll : l < s.hs.length := by omega
      obtain ⟨b, off, rfl, hbl, e0, _⟩ := HS1.out.atI hll
      rw [hle] at d1
      have HL := Lib.hid hle
      clear hle g0 g1
      cases q : (s.ws[k].task == t) with
      | true =>
        have HQ := Lib.hid q
        go_wp2_with fail
        go_quiet (fail)
        go_wp2_with fail
        go_ret
        refine ⟨ret_int ?_, bdN (ba _ _) _⟩
        have hf : s.ws.find? (fun x => x.task == t) = some s.ws[k] := by
          rw [List.find?_eq_some_iff_getElem]
          exact ⟨HQ.out, k, hlt, rfl, fun j hj => by rw [hall.out j hj (by omega)]; rfl⟩
        rw [aft, hf]
        show s.hs[l] = s.hs.getD s.ws[k].lock.toNat 0
        rw [HL.out, Int.toNat_natCast, List.getD_eq_getElem?_getD, List.getElem?_eq_getElem hll]
        rfl
      | false =>
        have HQ := Lib.hid q
        go_wp2_with fail
        go_round
        case rel =>
          refine ⟨k + 1, by omega, by go_num, fun j hj hj' => ?_⟩
          by_cases e : j = k
          · subst e; exact HQ.out
          · exact hall.out j (by omega) hj'
        case measure => simp [intOf]; omega
    · go_wp2_with fail
      go_ret
      refine ⟨ret_int ?_, ba _ _⟩
      have hf : s.ws.find? (fun x => x.task == t) = none := by
        rw [List.find?_eq_none]
        intro x hx
        obtain ⟨j, hj, rfl⟩ := List.getElem_of_mem hx
        rw [hall.out j (by omega) hj]
        simp
      rw [aft, hf]

theorem wt_is (w : World) (x : Wt) (h1 : Bd x.task) (h2 : Bd x.lock) : wtR.is w [.int .i64 x.task, .int .i64 x.lock] x := ⟨rfl, h1, h2⟩

/-- The state of the examples. -/
def exS : St := ⟨[1, 2, 0], [⟨1, 1⟩, ⟨3, 0⟩]⟩

set_option maxHeartbeats 400000 in
theorem example_any (w : World) : Calls Try.prog 13 #[] w fun e w' => ∃ v1 v2, e = .returned (.agg #[v1, v2]) ∧ Sl intR w' v1 exS.hs ∧ Sl wtR w' v2 exS.ws ∧ Below w.heap.size w w' := by
  go_enter Try.func13, Try.ntmps13
  go_wp2_with fail
  have c0 : ∀ o1 o2 : Obj, (((w.alloc (Obj.cells #[Value.slice (some { block := w.heap.size + 1, off := 0 }) 3 3, Value.slice (some { block := w.heap.size + 1 + 1, off := 0 }) 2 2] 25)).alloc o1).alloc o2).cell? ⟨w.heap.size, 0, none⟩ = some (Value.slice (some { block := w.heap.size + 1, off := 0 }) 3 3) := fun _ _ => by go_simp
  have c1 : ∀ o1 o2 : Obj, (((w.alloc (Obj.cells #[Value.slice (some { block := w.heap.size + 1, off := 0 }) 3 3, Value.slice (some { block := w.heap.size + 1 + 1, off := 0 }) 2 2] 25)).alloc o1).alloc o2).cell? ⟨w.heap.size, 1, none⟩ = some (Value.slice (some { block := w.heap.size + 1 + 1, off := 0 }) 2 2) := fun _ _ => by go_simp
  refine bodyPost_ret (v := .agg #[Value.slice (some { block := w.heap.size + 1, off := 0 }) 3 3, Value.slice (some { block := w.heap.size + 1 + 1, off := 0 }) 2 2]) (by simp [results, Try.results13, go_sem, c0, c1]) rfl ⟨_, _, rfl, ?_, ?_, ((ba _ _).alloc (by simp) _).alloc (by simp; omega) _⟩
  · refine Sl.up (Own.sl (Own.lit (e := 3) (B := 0) (cells := [.int .i64 1, .int .i64 2, .int .i64 0]) (by simp) (by omega) ?_ rfl (by omega))) (ba _ _)
    exact many_ints (xs := [1, 2, 0]) (by simp [Bd])
  · refine Own.sl (Own.lit (e := 33) (B := 0) (cells := [.int .i64 1, .int .i64 1, .int .i64 3, .int .i64 0]) (by simp) (by omega) ?_ rfl (by omega))
    exact many_cons (wt_is _ ⟨1, 1⟩ (by simp [Bd]) (by simp [Bd])) (many_cons (wt_is _ ⟨3, 0⟩ (by simp [Bd]) (by simp [Bd])) rfl)
end Go.Proofs.Ytgmjfmajdnoogaa
