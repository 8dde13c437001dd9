/-
  Walks of the comparison of locks.Wait, slices.BinarySearchFunc at waits. Conditions: as each theorem says.
-/
import Derived.Test.YtgmjfmajdnoogaaLkW
import Derived.Test.YtgmjfmajdnoogaaPlCycB
namespace Go.Proofs.Ytgmjfmajdnoogaa
open Go.RowKit

theorem wait1_any (x : Wt) (t : Int) (w : World) (h1 : 0 ≤ x.task) (h2 : x.task ≤ 1000) (h3 : 0 ≤ t) (h4 : t ≤ 1000) :
    Calls Try.prog 51 #[.agg #[.int .i64 x.task, .int .i64 x.lock], .int .i64 t] w fun e w' => e = .returned (.int .i64 (x.task - t)) ∧ Below w.heap.size w w' := by
  have hw : IntKind.i64.wrap (x.task - t) = x.task - t := by rw [IntKind.wrap_i64]; omega
  go_enter Try.func51, Try.ntmps51
  go_wp2_with fail
  go_ret
  exact ⟨rfl, ba _ _⟩

set_option maxHeartbeats 2000000 in
theorem search_any (v : Value) (ws : List Wt) (t : Int) (w : World) (hs : Sl wtR w v ws) (hz : ws.length ≤ 1000) (h3 : 0 ≤ t) (h4 : t ≤ 1000) (hin : ∀ x, x ∈ ws → 0 ≤ x.task ∧ x.task ≤ 1000) (ha : asc ws = true) :
    Calls Try.prog 50 #[v, .int .i64 t, .func (.func 51) #[] #[]] w fun e w' =>
      ∃ (k : Nat) (b : Bool), e = .returned (.tuple #[.int .i64 k, .bool b]) ∧ k ≤ ws.length ∧ (∀ j, (hj : j < ws.length) → j < k → ws[j].task < t) ∧ (∀ j, (hj : j < ws.length) → k ≤ j → t ≤ ws[j].task) ∧ Below w.heap.size w w' := by
  have eg := enters_fn Try.func51 (by kernel_rfl) rfl
  obtain ⟨A, c, rfl, _, hm, hs⟩ := hs.open
  have HS := Lib.hid hs
  have C := Lib.hid (fun W k (hk : k < ws.length) => wait1_any ws[k] t W (hin _ (List.getElem_mem hk)).1 (hin _ (List.getElem_mem hk)).2 h3 h4)
  have HA := Lib.hid (asc_lt ha)
  clear hs hin ha
  go_enter Try.func50, Try.ntmps50
  go_wp2_with fail
  go_loopw [9, 10] (fun i j wr => ∃ I J : Nat, I ≤ J ∧ J ≤ ws.length ∧ i = .int .i64 I ∧ j = .int .i64 J ∧ Hid (Below w.heap.size w wr) ∧ Hid (∀ m, (hm : m < ws.length) → m < I → ws[m].task < t) ∧ Hid (∀ m, (hm : m < ws.length) → J ≤ m → t ≤ ws[m].task)) (fun i j _ => (intOf j).toNat - (intOf i).toNat)
  case atStart => exact ⟨0, ws.length, by omega, by omega, rfl, rfl, Below.refl _ _, fun m _ h => by omega, fun m _ h => by omega⟩
  case round =>
    obtain ⟨I, J, hIJ, hJ, rfl, rfl, hb, hlo, hhi⟩ := hrel
    by_cases hlt : I < J
    · have hM : (I + J) / 2 < ws.length := by omega
      obtain ⟨b, off, rfl, _, e0, e1, _, _⟩ := (HS.out.up hb.out).atW hM
      by_cases hc : ws[(I + J) / 2].task < t
      · have hc' : decide (ws[(I + J) / 2].task - t < 0) = true := by simp; omega
        go_wp2_with (refine (C.out wr ((I + J) / 2) hM).mono ?_; rintro e w' ⟨rfl, hb1⟩)
        go_roundw
        case rel =>
          refine ⟨(I + J) / 2 + 1, J, by omega, by omega, by go_num, rfl, hb.out.trans (hb1.mono hb.out.size), fun m hm h => ?_, hhi.out⟩
          rcases Nat.lt_or_ge m ((I + J) / 2) with h | h
          · have := HA.out m _ h hM; omega
          · have e : m = (I + J) / 2 := by omega
            subst e; exact hc
        case measure => simp [intOf]; omega
      · have hc' : decide (ws[(I + J) / 2].task - t < 0) = false := by simp; omega
        go_wp2_with (refine (C.out wr ((I + J) / 2) hM).mono ?_; rintro e w' ⟨rfl, hb1⟩)
        go_roundw
        case rel =>
          refine ⟨I, (I + J) / 2, by omega, by omega, rfl, by go_num, hb.out.trans (hb1.mono hb.out.size), hlo.out, fun m hm h => ?_⟩
          rcases Nat.lt_or_ge ((I + J) / 2) m with h | h
          · have := HA.out _ m h hm; omega
          · have e : m = (I + J) / 2 := by omega
            subst e; omega
        case measure => simp [intOf]; omega
    · have hle : I = J := by omega
      subst hle
      by_cases hn : I < ws.length
      · obtain ⟨b, off, rfl, _, e0, e1, _, _⟩ := (HS.out.up hb.out).atW hn
        go_wp2_with (refine (C.out wr I hn).mono ?_; rintro e w' ⟨rfl, hb1⟩)
        go_ret2
        exact ⟨I, _, rfl, hJ, hlo.out, hhi.out, hb.out.trans (hb1.mono hb.out.size)⟩
      · go_wp2_with fail
        go_ret2
        exact ⟨I, _, rfl, hJ, hlo.out, hhi.out, hb.out⟩
end Go.Proofs.Ytgmjfmajdnoogaa
