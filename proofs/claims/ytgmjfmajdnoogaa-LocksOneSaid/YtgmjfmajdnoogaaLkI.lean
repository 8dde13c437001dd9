/-
  Walks of locks.Held, locks.Blocked, locks.Free. Conditions: as each theorem says.
-/
import Derived.Test.YtgmjfmajdnoogaaLkH
import Derived.Test.YtgmjfmajdnoogaaLibC
namespace Go.Proofs.Ytgmjfmajdnoogaa
open Go.RowKit

def heldS (s : St) (t : Int) : List Int × Int := if chk s ≠ 0 then ([], chk s) else if tsk t = true then (places t s.hs 0, 0) else ([], 7)

set_option maxHeartbeats 1000000 in
theorem held_any (v1 v2 : Value) (s : St) (t : Int) (w : World) (h1 : Sl intR w v1 s.hs) (h2 : Sl wtR w v2 s.ws) :
    Calls Try.prog 17 #[.agg #[v1, v2], .int .i64 t] w fun e w' => ∃ v, e = .returned (.tuple #[v, .int .i64 (heldS s t).2]) ∧ Sl intR w' v (heldS s t).1 ∧ Below w.heap.size w w' := by
  obtain ⟨A, c, rfl, hc, hm, h1⟩ := h1.open
  obtain ⟨A', c', rfl, _, hm', h2⟩ := h2.open
  have hl : s.hs.length ≤ 9223372036854775807 := by omega
  have C1 := Lib.hid (fun W (hb : Below w.heap.size w W) => check_any _ _ s W (h1.up hb) (h2.up hb))
  by_cases q1 : chk s = 0
  · obtain ⟨z1, z2, _⟩ := chk_ok q1
    have H1 := Lib.hid q1
    have C2 := Lib.hid (task_any t)
    clear q1 h2
    cases q2 : tsk t with
    | false =>
      have hT := Lib.hid (show heldS s t = ([], 7) by rw [heldS, if_neg (by rw [H1.out]; simp), q2]; rfl)
      have H2 := Lib.hid q2
      clear q2 h1
      go_enter Try.func17, Try.ntmps17
      go_wp2_with (first
        | (go_at_call 11; refine (C1.out _ (ba _ _)).mono ?_; rw [H1.out]; rintro e w1 ⟨rfl, hb1⟩)
        | (go_at_call 27; refine (C2.out _).mono ?_; rw [H2.out]; rintro e w' ⟨rfl, rfl⟩))
      go_ret2
      rw [hT.out]
      exact ⟨_, rfl, Sl.none _ _, (ba _ _).trans (hb1.mono (by simp))⟩
    | true =>
      have hT := Lib.hid (show heldS s t = (places t s.hs 0, 0) by rw [heldS, if_neg (by rw [H1.out]; simp), q2]; rfl)
      have H2 := Lib.hid q2
      have HS := Lib.hid h1
      clear q2 h1
      go_enter Try.func17, Try.ntmps17
      go_wp2_with (first
        | (go_at_call 11; refine (C1.out _ (ba _ _)).mono ?_; rw [H1.out]; rintro e w1 ⟨rfl, hb1⟩; have k0 := box_cell hb1 0 _ rfl)
        | (go_at_call 27; refine (C2.out _).mono ?_; rw [H2.out]; rintro e w' ⟨rfl, rfl⟩))
      have HB1 := Lib.hid ((ba w _).trans (hb1.mono (by simp)))
      clear hb1 k0
      go_loopw [7, 21] (fun v i wr => ∃ k : Nat, k ≤ s.hs.length ∧ i = .int .i64 k ∧ Hid (Below w.heap.size w wr) ∧ Hid (Own intR 3 w.heap.size wr v (places t (s.hs.take k) 0))) (fun _ i _ => s.hs.length - (intOf i).toNat)
      case atStart => exact ⟨0, by omega, rfl, HB1.out, Own.nil _ _ _ _⟩
      case round =>
        obtain ⟨k, hk, rfl, hb, hown⟩ := hrel
        by_cases hlt : k < s.hs.length
        · obtain ⟨b, off, rfl, hbl, e0, _⟩ := (HS.out.up hb.out).atI hlt
          have hps := Lib.hid (places_snoc t s.hs k hlt)
          have hpl := places_len t (s.hs.take k) 0
          rw [List.length_take] at hpl
          cases q3 : (s.hs[k] == t) with
          | false =>
            have H3 := Lib.hid q3
            go_wp2_with fail
            go_roundw
            case rel => exact ⟨k + 1, by omega, by go_num, hb, by have h1 := hown.out; have h2 := hps.out; rw [H3.out] at h2; simp at h2; rw [← h2] at h1; exact h1⟩
            case measure => simp [intOf]; omega
          | true =>
            have H3 := Lib.hid q3
            go_wp2_with (at_builtin; refine wpList_append_sl _ rfl (.tmp 29) (.tmp 31) 22 rfl intR w.heap.size 3 _ 8 Try.underlying22 infoI rfl (by decide) _ (places t (s.hs.take k) 0) rfl (hown.out.up (ba _ _)) _ [(k : Int)] rfl (sl_one _ _ _ _ rfl (by unfold Bd; omega)) (by simp; omega) (by decide) (by simp; exact Nat.le_succ_of_le hb.out.size) (fun w' _ cs y h => intR_flat _ _ _ _ h) ?_; intro v1 w2 hown1 hg1 hat1)
            go_roundw
            case rel =>
              refine ⟨k + 1, by omega, by go_num, ?_, ?_⟩
              · exact (hb.out.trans ((ba wr _).mono hb.out.size)).grown hg1 (by simp; exact Nat.le_succ_of_le hb.out.size) fun j hj => ((hown.out.lt j hj)).1
              · have h2 := hps.out
                rw [H3.out] at h2
                simp at h2
                show Own _ _ _ _ _ _
                rw [h2]
                exact hown1
            case measure => simp [intOf]; omega
        · have hke : k = s.hs.length := by omega
          have HK := Lib.hid hke
          clear hke
          go_wp2_with fail
          go_ret2
          rw [hT.out]
          refine ⟨_, rfl, ?_, hb.out⟩
          have h1 := hown.out
          rw [HK.out, List.take_length] at h1
          exact h1.sl
  · have hn : (chk s != 0) = true := by simpa using q1
    have hT := Lib.hid (show heldS s t = ([], chk s) by rw [heldS, if_pos q1])
    clear q1 h1 h2
    go_enter Try.func17, Try.ntmps17
    go_wp2_with (go_at_call 11; refine (C1.out _ (ba _ _)).mono ?_; rintro e w1 ⟨rfl, hb1⟩)
    go_ret2
    rw [hT.out]
    exact ⟨_, rfl, Sl.none _ _, (ba _ _).trans (hb1.mono (by simp))⟩
end Go.Proofs.Ytgmjfmajdnoogaa
