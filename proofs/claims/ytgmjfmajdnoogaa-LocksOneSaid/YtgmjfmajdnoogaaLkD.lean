/-
  Walks of locks.may, slices.Clone, slices.DeleteFunc, locks.clone, locks.Take. Conditions: as each theorem says.
-/
import Derived.Test.YtgmjfmajdnoogaaLkC
namespace Go.Proofs.Ytgmjfmajdnoogaa
open Go.RowKit

theorem askd_ok {s : St} {t l : Int} (h : askd s t l = 0) : chk s = 0 ∧ tsk t = true ∧ 0 ≤ l ∧ l < s.hs.length := by
  unfold askd at h
  split at h
  · contradiction
  · rename_i h0
    simp only [ne_eq, Decidable.not_not] at h0
    split at h
    · rename_i h1; exact ⟨h0, h1⟩
    · simp at h

/-- The error of a task that asks for a lock. -/
def mayE (s : St) (t l : Int) : Int := if askd s t l ≠ 0 then askd s t l else if s.hs.getD l.toNat 0 = t then 8 else if (s.hs.drop l.toNat).any (fun x => t == x) then 19 else 0

set_option maxHeartbeats 800000 in
theorem may_any (v1 v2 : Value) (s : St) (t l : Int) (w : World) (h1 : Sl intR w v1 s.hs) (h2 : Sl wtR w v2 s.ws) :
    Calls Try.prog 30 #[.agg #[v1, v2], .int .i64 t, .int .i64 l] w fun e w' => e = .returned (.int .i64 (mayE s t l)) ∧ Below w.heap.size w w' := by
  obtain ⟨A, c, rfl, hc, hm, h1⟩ := h1.open
  obtain ⟨A', c', rfl, _, hm', h2⟩ := h2.open
  have hl : s.hs.length ≤ 9223372036854775807 := by omega
  have C1 := Lib.hid (fun W (hb : Below w.heap.size w W) => asked_any _ _ s t l W (h1.up hb) (h2.up hb))
  clear h2
  by_cases q1 : askd s t l = 0
  · obtain ⟨_, _, g0, g1⟩ := askd_ok q1
    obtain ⟨k, rfl⟩ := Int.eq_ofNat_of_zero_le g0
    have hk : k < s.hs.length := by omega
    have H1 := Lib.hid q1
    clear q1 g0 g1
    obtain ⟨b, off, rfl, hbl, e0, _⟩ := h1.atI hk
    have hget := Lib.hid (show s.hs.getD ((k : Int).toNat) 0 = s.hs[k] by rw [Int.toNat_natCast, List.getD_eq_getElem?_getD, List.getElem?_eq_getElem hk]; rfl)
    have hkc : k < c := by omega
    have H0 := Lib.hid h1
    clear h1
    by_cases q2 : s.hs[k] = t
    · have q2' : (s.hs[k] == t) = true := by simpa using q2
      have H2 := Lib.hid q2
      clear q2
      go_enter Try.func30, Try.ntmps30
      go_wp2_with (go_at_call 32; refine (C1.out _ (ba _ _)).mono ?_; rw [H1.out]; rintro e w1 ⟨rfl, hb1⟩; have k0 := box_cell hb1 0 _ rfl; have m0 := cell_later ((ba _ _).trans (hb1.mono (by simp))) e0)
      go_ret
      exact ⟨ret_int (by rw [mayE, if_neg (by rw [H1.out]; simp), hget.out, if_pos H2.out]), (ba _ _).trans (hb1.mono (by simp))⟩
    · have q2' : (s.hs[k] == t) = false := by simpa using q2
      have H2 := Lib.hid q2
      clear q2
      go_enter Try.func30, Try.ntmps30
      go_wp2_with (go_at_call 32; refine (C1.out _ (ba _ _)).mono ?_; rw [H1.out]; rintro e w1 ⟨rfl, hb1⟩; have k0 := box_cell hb1 0 _ rfl; have m0 := cell_later ((ba _ _).trans (hb1.mono (by simp))) e0)
      refine (containsI_any t _ (s.hs.drop k) w1 ((H0.out.up ((ba _ _).trans (hb1.mono (by simp)))).drop (Nat.le_of_lt hk) (by simp [intR]) rfl rfl)).mono ?_
      cases q3 : (s.hs.drop k).any fun x => t == x with
      | true =>
        rintro e w2 ⟨rfl, rfl⟩
        have H3 := Lib.hid q3
        clear q3
        go_wp2_with fail
        go_ret
        exact ⟨ret_int (by rw [mayE, if_neg (by rw [H1.out]; simp), hget.out, if_neg H2.out, Int.toNat_natCast, H3.out]; rfl), (ba _ _).trans (hb1.mono (by simp))⟩
      | false =>
        rintro e w2 ⟨rfl, rfl⟩
        have H3 := Lib.hid q3
        clear q3
        go_wp2_with fail
        go_ret
        exact ⟨ret_int (by rw [mayE, if_neg (by rw [H1.out]; simp), hget.out, if_neg H2.out, Int.toNat_natCast, H3.out]; rfl), (ba _ _).trans (hb1.mono (by simp))⟩
  · have hn : (askd s t l != 0) = true := by simpa using q1
    have H1 := Lib.hid q1
    clear q1
    go_enter Try.func30, Try.ntmps30
    go_wp2_with (go_at_call 32; refine (C1.out _ (ba _ _)).mono ?_; rintro e w1 ⟨rfl, hb1⟩; have k0 := box_cell hb1 0 _ rfl)
    go_ret
    exact ⟨ret_int (by rw [mayE, if_pos H1.out]), (ba _ _).trans (hb1.mono (by simp))⟩
end Go.Proofs.Ytgmjfmajdnoogaa
