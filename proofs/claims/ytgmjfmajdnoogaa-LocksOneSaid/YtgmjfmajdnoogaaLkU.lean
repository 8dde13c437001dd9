/-
  Walk of groundlingref14.Same. Conditions: as the theorem says.
-/
import Derived.Test.YtgmjfmajdnoogaaLkJ
import Derived.Test.YtgmjfmajdnoogaaLibS
namespace Go.Proofs.Ytgmjfmajdnoogaa
open Go.RowKit

def sameS (a b : St) : Bool := decide (a.hs = b.hs) && decide (a.ws = b.ws)

set_option maxHeartbeats 1000000 in
theorem same_any (v1 v2 u1 u2 : Value) (s t : St) (w : World) (h1 : Sl intR w v1 s.hs) (h2 : Sl wtR w v2 s.ws) (g1 : Sl intR w u1 t.hs) (g2 : Sl wtR w u2 t.ws) :
    Calls Try.prog 23 #[.agg #[v1, v2], .agg #[u1, u2]] w fun e w' => e = .returned (.bool (sameS s t)) ∧ Below w.heap.size w w' := by
  obtain ⟨A, c, rfl, _, hm, h1⟩ := h1.open
  obtain ⟨A', c', rfl, _, hm', h2⟩ := h2.open
  obtain ⟨B, d, rfl, _, gm, g1⟩ := g1.open
  obtain ⟨B', d', rfl, _, gm', g2⟩ := g2.open
  have hl : s.ws.length ≤ 9223372036854775807 := by omega
  have gl : t.ws.length ≤ 9223372036854775807 := by omega
  have C1 := Lib.hid (fun W (hb : Below w.heap.size w W) => sameInts_any _ _ s.hs t.hs W (h1.up hb) (g1.up hb))
  have HS := Lib.hid h2
  have HT := Lib.hid g2
  clear h1 h2 g1 g2
  by_cases q1 : s.hs = t.hs
  · have H1 := Lib.hid q1
    have e1 := Lib.hid (show decide (s.hs = t.hs) = true by simpa using q1)
    clear q1
    by_cases q2 : s.ws.length = t.ws.length
    · have H2 := Lib.hid q2
      have e2 : ((s.ws.length : Int) != (t.ws.length : Int)) = false := by rw [H2.out]; simp
      clear q2
      go_enter Try.func23, Try.ntmps23
      go_wp2_with (go_at_call 19; refine (C1.out _ (bal (ba _ _))).mono ?_; rw [e1.out]; rintro e w1 ⟨rfl, n, rfl⟩)
      refine at_world (fun W => Below w.heap.size w W ∧ W.cell? ⟨w.heap.size, 1, none⟩ = some (.slice A' s.ws.length c') ∧ W.cell? ⟨w.heap.size + 1, 1, none⟩ = some (.slice B' t.ws.length d') ∧ w.heap.size + 1 < W.heap.size)
        ⟨bdN (bal (ba _ _)) n, by go_simp, by go_simp, by simp⟩ fun W0 ⟨hb0, k0, k1, z0⟩ => ?_
      have HB0 := Lib.hid hb0
      clear hb0
      go_loopw [5] (fun i wr => ∃ k n : Nat, k ≤ s.ws.length ∧ i = .int .i64 k ∧ wr = W0.drewN n ∧ Hid (s.ws.take k = t.ws.take k)) (fun i _ => s.ws.length - (intOf i).toNat)
      case atStart => exact ⟨0, 0, by omega, rfl, rfl, rfl⟩
      case round =>
        obtain ⟨k, m, hk, rfl, rfl, hsame⟩ := hrel
        by_cases hlt : k < s.ws.length
        · have hlt' : k < t.ws.length := by have := H2.out; omega
          obtain ⟨b, off, rfl, _, e0, e3, _, _⟩ := (HS.out.up HB0.out).atW hlt
          obtain ⟨b', off', rfl, _, e4, e5, _, _⟩ := (HT.out.up HB0.out).atW hlt'
          by_cases q3 : s.ws[k].task = t.ws[k].task
          · by_cases q4 : s.ws[k].lock = t.ws[k].lock
            · have hx := Lib.hid (show s.ws[k] = t.ws[k] by cases hs : s.ws[k]; cases ht : t.ws[k]; rw [hs, ht] at q3 q4; simp only at q3 q4; rw [q3, q4])
              go_wp2_with fail
              go_quiet (fail)
              go_wp2_with fail
              go_roundw
              case rel => exact ⟨k + 1, m + nq, by omega, by go_num, by simp, by show Hid _; rw [List.take_succ_eq_append_getElem hlt, List.take_succ_eq_append_getElem hlt', hsame.out, hx.out]; exact Lib.hid rfl⟩
              case measure => simp [intOf]; omega
            · have hne := Lib.hid (show s.ws ≠ t.ws from fun e => q4 (by simp only [e]))
              go_wp2_with fail
              go_quiet (fail)
              go_wp2_with fail
              go_ret
              exact ⟨ret_bool (by simp [sameS, hne.out]), bdN (bdN HB0.out _) _⟩
          · have hne := Lib.hid (show s.ws ≠ t.ws from fun e => q3 (by simp only [e]))
            go_wp2_with fail
            go_quiet (fail)
            go_wp2_with fail
            go_ret
            exact ⟨ret_bool (by simp [sameS, hne.out]), bdN (bdN HB0.out _) _⟩
        · have heq := Lib.hid (show s.ws = t.ws by
            have h := hsame.out
            rwa [List.take_of_length_le (by omega), List.take_of_length_le (by have := H2.out; omega)] at h)
          go_wp2_with fail
          go_ret
          exact ⟨ret_bool (by simp [sameS, H1.out, heq.out]), bdN HB0.out _⟩
    · have hne := Lib.hid (show s.ws ≠ t.ws from fun e => q2 (by rw [e]))
      have e2 : ((s.ws.length : Int) != (t.ws.length : Int)) = true := by simp; omega
      clear q2
      go_enter Try.func23, Try.ntmps23
      go_wp2_with (go_at_call 19; refine (C1.out _ (bal (ba _ _))).mono ?_; rw [e1.out]; rintro e w1 ⟨rfl, n, rfl⟩)
      go_ret
      exact ⟨ret_bool (by simp [sameS, hne.out]), bdN (bal (ba _ _)) n⟩
  · have e1 := Lib.hid (show decide (s.hs = t.hs) = false by simpa using q1)
    clear q1
    go_enter Try.func23, Try.ntmps23
    go_wp2_with (go_at_call 19; refine (C1.out _ (bal (ba _ _))).mono ?_; rw [e1.out]; rintro e w1 ⟨rfl, n, rfl⟩)
    go_ret
    exact ⟨ret_bool (by rw [sameS, e1.out]; rfl), bdN (bal (ba _ _)) n⟩
end Go.Proofs.Ytgmjfmajdnoogaa
