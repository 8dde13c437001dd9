/-
  Walks of the document's answer for locks, first part (package groundlingref14): New, Check, asked, may; and of locks.Free. Conditions: as each theorem says.
-/
import Derived.Test.YtgmjfmajdnoogaaLkM
namespace Go.Proofs.Ytgmjfmajdnoogaa
open Go.RowKit

theorem any_hit {α : Type} {p : α → Bool} {l : List α} {k : Nat} (hk : k < l.length) (h : p l[k] = true) : l.any p = true := List.any_eq_true.2 ⟨l[k], List.getElem_mem hk, h⟩
theorem any_miss {α : Type} {p : α → Bool} {l : List α} {k : Nat} (hk : l.length ≤ k) (h : ∀ j, (hj : j < k) → (hj' : j < l.length) → p l[j] = false) : l.any p = false := by
  cases e : l.any p with
  | false => rfl
  | true =>
    obtain ⟨x, hx, hp⟩ := List.any_eq_true.1 e
    obtain ⟨j, hj, rfl⟩ := List.getElem_of_mem hx
    rw [h j (by omega) hj] at hp
    cases hp
theorem badH_iff {x : Int} : badH x = true ↔ x < 0 ∨ 200 < x := by simp [badH, tsk]; omega
theorem badW_iff {n : Nat} {x : Wt} : badW n x = true ↔ x.task < 1 ∨ 200 < x.task ∨ x.lock < 0 ∨ (n : Int) ≤ x.lock := by simp [badW, tsk]; omega

set_option maxHeartbeats 1000000 in
theorem rcheck_any (v1 v2 : Value) (s : St) (w : World) (h1 : Sl intR w v1 s.hs) (h2 : Sl wtR w v2 s.ws) :
    Calls Try.prog 42 #[.agg #[v1, v2]] w fun e w' => e = .returned (.int .i64 (chk s)) ∧ Below w.heap.size w w' := by
  obtain ⟨hs, ws⟩ := s
  dsimp only at h1 h2
  obtain ⟨A, c, rfl, _, hm, h1⟩ := h1.open
  obtain ⟨A', c', rfl, _, hm', h2⟩ := h2.open
  have hl : hs.length ≤ 9223372036854775807 := by omega
  have hl' : ws.length ≤ 9223372036854775807 := by omega
  by_cases g1 : 64 < hs.length
  · go_enter Try.func42, Try.ntmps42
    go_wp2_with fail
    go_ret
    exact ⟨ret_int (by simp [chk, g1]), ba _ _⟩
  by_cases g2 : 200 < ws.length
  · go_enter Try.func42, Try.ntmps42
    go_wp2_with fail
    go_ret
    exact ⟨ret_int (by simp [chk, g2]), ba _ _⟩
  have hchk := Lib.hid (show chk ⟨hs, ws⟩ = if hs.any badH then 7 else if ws.any (badW hs.length) then 7 else if asc ws then 0 else 6 by simp [chk, g1, g2])
  have HS1 := Lib.hid h1
  have HS2 := Lib.hid h2
  clear h1 h2
  go_enter Try.func42, Try.ntmps42
  go_wp2_with fail
  refine at_world (fun W => Below w.heap.size w W ∧ W.cell? ⟨w.heap.size, 0, none⟩ = some (.slice A hs.length c) ∧ W.cell? ⟨w.heap.size, 1, none⟩ = some (.slice A' ws.length c') ∧ w.heap.size < W.heap.size)
    ⟨ba _ _, by go_simp, by go_simp, by simp⟩ fun W0 ⟨hb0, k0, k1, z0⟩ => ?_
  have HB0 := Lib.hid hb0
  clear hb0
  go_loop [3] (fun i => ∃ k : Nat, k ≤ hs.length ∧ i = .int .i64 k ∧ Hid (∀ j, (hj : j < k) → (hj' : j < hs.length) → badH hs[j] = false)) (fun i => hs.length - (intOf i).toNat)
  case atStart => exact ⟨0, by omega, rfl, fun j hj => by omega⟩
  case round =>
    obtain ⟨k, hk, rfl, hall⟩ := hrel
    by_cases hlt : k < hs.length
    · obtain ⟨b, off, rfl, hbl, e0, _⟩ := (HS1.out.up HB0.out).atI hlt
      by_cases c1 : hs[k] < 0
      · have hbad := Lib.hid (any_hit hlt (badH_iff.2 (.inl c1)))
        go_wp2_with fail
        go_ret
        exact ⟨ret_int (by rw [hchk.out, hbad.out]; rfl), HB0.out⟩
      · by_cases c2 : 200 < hs[k]
        · have hbad := Lib.hid (any_hit hlt (badH_iff.2 (.inr c2)))
          go_wp2_with fail
          go_ret
          exact ⟨ret_int (by rw [hchk.out, hbad.out]; rfl), HB0.out⟩
        · have hok := Lib.hid (show badH hs[k] = false by rw [Bool.eq_false_iff]; intro h; have := badH_iff.1 h; omega)
          go_wp2_with fail
          go_round
          case rel =>
            refine ⟨k + 1, by omega, by go_num, fun j hj hj' => ?_⟩
            by_cases e : j = k
            · subst e; exact hok.out
            · exact hall.out j (by omega) hj'
          case measure => simp [intOf]; omega
    · have H1 := Lib.hid (any_miss (p := badH) (by omega) hall.out)
      clear hall
      go_wp2_with fail
      go_loopw [4] (fun i wr => ∃ k : Nat, k ≤ ws.length ∧ i = .int .i64 k ∧ Hid (Below W0.heap.size W0 wr) ∧ Hid (∀ j, (hj : j < k) → (hj' : j < ws.length) → badW hs.length ws[j] = false)) (fun i _ => ws.length - (intOf i).toNat)
      case atStart => exact ⟨0, by omega, rfl, Below.refl _ _, fun j hj => by omega⟩
      case round =>
        obtain ⟨k, hk, rfl, hb, hall⟩ := hrel
        have l0 := cell_later hb.out k0
        have l1 := cell_later hb.out k1
        have zr : w.heap.size < wr.heap.size := Nat.lt_of_lt_of_le z0 hb.out.size
        have HBr := Lib.hid (HB0.out.trans (hb.out.mono HB0.out.size))
        by_cases hlt : k < ws.length
        · obtain ⟨b, off, rfl, hbl, e0, e1, _, _⟩ := (HS2.out.up HBr.out).atW hlt
          by_cases hbw : badW hs.length ws[k] = true
          · have hbad := Lib.hid (any_hit hlt hbw)
            have hor := badW_iff.1 hbw
            clear hbw
            by_cases a1 : ws[k].task < 1
            · go_wp2_with fail
              go_ret
              exact ⟨ret_int (by rw [hchk.out, H1.out, hbad.out]; rfl), HBr.out.trans ((ba _ _).mono HBr.out.size)⟩
            by_cases a2 : 200 < ws[k].task
            · go_wp2_with fail
              go_ret
              exact ⟨ret_int (by rw [hchk.out, H1.out, hbad.out]; rfl), HBr.out.trans ((ba _ _).mono HBr.out.size)⟩
            by_cases a3 : ws[k].lock < 0
            · go_wp2_with fail
              go_ret
              exact ⟨ret_int (by rw [hchk.out, H1.out, hbad.out]; rfl), HBr.out.trans ((ba _ _).mono HBr.out.size)⟩
            have a4 : (hs.length : Int) ≤ ws[k].lock := by omega
            clear hor
            go_wp2_with fail
            go_ret
            exact ⟨ret_int (by rw [hchk.out, H1.out, hbad.out]; rfl), HBr.out.trans ((ba _ _).mono HBr.out.size)⟩
          · have hok := Lib.hid (show badW hs.length ws[k] = false by simpa using hbw)
            have a1 : ¬ ws[k].task < 1 := fun h => hbw (badW_iff.2 (.inl h))
            have a2 : ¬ 200 < ws[k].task := fun h => hbw (badW_iff.2 (.inr (.inl h)))
            have a3 : ¬ ws[k].lock < 0 := fun h => hbw (badW_iff.2 (.inr (.inr (.inl h))))
            have a4 : ¬ (hs.length : Int) ≤ ws[k].lock := fun h => hbw (badW_iff.2 (.inr (.inr (.inr h))))
            clear hbw
            go_wp2_with fail
            go_roundw
            case rel =>
              refine ⟨k + 1, by omega, by go_num, hb.out.trans ((ba _ _).mono hb.out.size), fun j hj hj' => ?_⟩
              by_cases e : j = k
              · subst e; exact hok.out
              · exact hall.out j (by omega) hj'
            case measure => simp [intOf]; omega
        · have H2 := Lib.hid (any_miss (p := badW hs.length) (by omega) hall.out)
          obtain ⟨w2, rfl⟩ : ∃ w2 : World, w2 = wr := ⟨_, rfl⟩
          have H3 := Lib.hid (HS2.out.up HBr.out)
          clear hall HS1 HS2 HB0 k0 k1 z0
          go_wp2_with fail
          go_loopw [6] (fun i wr => ∃ k n : Nat, 1 ≤ k ∧ i = .int .i64 k ∧ wr = w2.drewN n ∧ Hid (∀ j, (hj : j + 1 < k) → (hj' : j + 1 < ws.length) → ws[j].task < ws[j + 1].task)) (fun i _ => ws.length - (intOf i).toNat)
          case atStart => exact ⟨1, 0, by omega, rfl, rfl, fun j hj => by omega⟩
          case round =>
            obtain ⟨k, n, hk, rfl, rfl, hall⟩ := hrel
            by_cases hlt : k < ws.length
            · obtain ⟨b, off, rfl, hbl, e0, _, _, _⟩ := H3.out.atW hlt
              obtain ⟨b', off', he, _, e1, _, _, _⟩ := H3.out.atW (k := k - 1) (by omega)
              injection he with he
              injection he with he1 he2
              subst he1 he2
              by_cases hle : ws[k].task ≤ ws[k - 1].task
              · go_wp2_with fail
                go_quiet (fail)
                go_wp2_with fail
                go_ret
                refine ⟨ret_int ?_, bdN (bdN HBr.out _) _⟩
                rw [hchk.out, H1.out, H2.out, asc_false (j := k - 1) (by omega) (by simpa [show k - 1 + 1 = k from by omega] using hle)]
                rfl
              · go_wp2_with fail
                go_quiet (fail)
                go_wp2_with fail
                go_roundw
                case rel =>
                  refine ⟨k + 1, _, by omega, by go_num, rfl, fun j hj hj' => ?_⟩
                  by_cases e : j + 1 = k
                  · subst e
                    simp only [Nat.add_sub_cancel] at hle
                    omega
                  · exact hall.out j (by omega) hj'
                case measure => simp [intOf]; omega
            · go_wp2_with fail
              go_ret
              refine ⟨ret_int ?_, bdN HBr.out _⟩
              rw [hchk.out, H1.out, H2.out, asc_true fun j hj => hall.out j (by omega) hj]
              rfl

set_option maxHeartbeats 800000 in
theorem rasked_any (v1 v2 : Value) (s : St) (t l : Int) (w : World) (h1 : Sl intR w v1 s.hs) (h2 : Sl wtR w v2 s.ws) :
    Calls Try.prog 55 #[.agg #[v1, v2], .int .i64 t, .int .i64 l] w fun e w' => e = .returned (.int .i64 (askd s t l)) ∧ Below w.heap.size w w' := by
  obtain ⟨A, c, rfl, _, hm, h1⟩ := h1.open
  obtain ⟨A', c', rfl, _, hm', h2⟩ := h2.open
  have hl : s.hs.length ≤ 9223372036854775807 := by omega
  have C1 := Lib.hid (fun W (hb : Below w.heap.size w W) => rcheck_any _ _ s W (h1.up hb) (h2.up hb))
  clear h1 h2
  by_cases q1 : chk s = 0
  · have H1 := Lib.hid q1
    clear q1
    by_cases a1 : t < 1
    · go_enter Try.func55, Try.ntmps55
      go_wp2_with (go_at_call 42; refine (C1.out _ (ba _ _)).mono ?_; rw [H1.out]; rintro e w1 ⟨rfl, hb1⟩; have k0 := box_cell hb1 0 _ rfl)
      go_ret
      exact ⟨ret_int (by simp [askd, H1.out, tsk]; omega), (ba _ _).trans (hb1.mono (by simp))⟩
    by_cases a2 : 200 < t
    · go_enter Try.func55, Try.ntmps55
      go_wp2_with (go_at_call 42; refine (C1.out _ (ba _ _)).mono ?_; rw [H1.out]; rintro e w1 ⟨rfl, hb1⟩; have k0 := box_cell hb1 0 _ rfl)
      go_ret
      exact ⟨ret_int (by simp [askd, H1.out, tsk]; omega), (ba _ _).trans (hb1.mono (by simp))⟩
    by_cases a3 : l < 0
    · go_enter Try.func55, Try.ntmps55
      go_wp2_with (go_at_call 42; refine (C1.out _ (ba _ _)).mono ?_; rw [H1.out]; rintro e w1 ⟨rfl, hb1⟩; have k0 := box_cell hb1 0 _ rfl)
      go_ret
      exact ⟨ret_int (by simp [askd, H1.out, tsk]; omega), (ba _ _).trans (hb1.mono (by simp))⟩
    by_cases a4 : (s.hs.length : Int) ≤ l
    · go_enter Try.func55, Try.ntmps55
      go_wp2_with (go_at_call 42; refine (C1.out _ (ba _ _)).mono ?_; rw [H1.out]; rintro e w1 ⟨rfl, hb1⟩; have k0 := box_cell hb1 0 _ rfl)
      go_ret
      exact ⟨ret_int (by simp [askd, H1.out, tsk]; omega), (ba _ _).trans (hb1.mono (by simp))⟩
    go_enter Try.func55, Try.ntmps55
    go_wp2_with (go_at_call 42; refine (C1.out _ (ba _ _)).mono ?_; rw [H1.out]; rintro e w1 ⟨rfl, hb1⟩; have k0 := box_cell hb1 0 _ rfl)
    go_ret
    exact ⟨ret_int (by simp [askd, H1.out, tsk]; omega), (ba _ _).trans (hb1.mono (by simp))⟩
  · have hn : (chk s == 0) = false := by simpa using q1
    have H1 := Lib.hid q1
    clear q1
    go_enter Try.func55, Try.ntmps55
    go_wp2_with (go_at_call 42; refine (C1.out _ (ba _ _)).mono ?_; rintro e w1 ⟨rfl, hb1⟩)
    go_ret
    exact ⟨ret_int (by rw [askd, if_pos H1.out]), (ba _ _).trans (hb1.mono (by simp))⟩
end Go.Proofs.Ytgmjfmajdnoogaa
