/-
  Walks of locks.Check, locks.asked, locks.may: what each returns. Conditions: as each theorem says.
-/
import Derived.Test.YtgmjfmajdnoogaaLkB
namespace Go.Proofs.Ytgmjfmajdnoogaa
open Go.RowKit

def asc : List Wt → Bool
  | x :: y :: l => decide (x.task < y.task) && asc (y :: l)
  | _ => true

theorem asc_true : ∀ {l : List Wt}, (∀ j, (h : j + 1 < l.length) → l[j].task < l[j + 1].task) → asc l = true
  | [], _ => rfl
  | [_], _ => rfl
  | x :: y :: l, h => by
    simp only [asc, Bool.and_eq_true, decide_eq_true_eq]
    exact ⟨h 0 (by simp), asc_true fun j hj => h (j + 1) (by simpa using hj)⟩

theorem asc_get : ∀ {l : List Wt}, asc l = true → ∀ j, (h : j + 1 < l.length) → l[j].task < l[j + 1].task
  | [], _, j, h => by simp at h
  | [_], _, j, h => by simp at h
  | x :: y :: l, ha, j, h => by
    simp only [asc, Bool.and_eq_true, decide_eq_true_eq] at ha
    cases j with
    | zero => exact ha.1
    | succ j => exact asc_get ha.2 j (by simpa using h)

theorem asc_false {l : List Wt} {j : Nat} (h : j + 1 < l.length) (hn : l[j + 1].task ≤ l[j].task) : asc l = false := by
  cases he : asc l with
  | false => rfl
  | true => have := asc_get he j h; omega

/-- What Check answers. -/
def chk (s : St) : Int :=
  if 64 < s.hs.length ∨ 200 < s.ws.length then 3
  else if s.hs.any badH then 7 else if s.ws.any (badW s.hs.length) then 7
  else if asc s.ws then 0 else 6

set_option maxHeartbeats 800000 in
theorem check_any (v1 v2 : Value) (s : St) (w : World) (h1 : Sl intR w v1 s.hs) (h2 : Sl wtR w v2 s.ws) :
    Calls Try.prog 11 #[.agg #[v1, v2]] w fun e w' => e = .returned (.int .i64 (chk s)) ∧ Below w.heap.size w w' := by
  obtain ⟨hs, ws⟩ := s
  dsimp only at h1 h2
  obtain ⟨A, c, rfl, _, hm, h1⟩ := h1.open
  obtain ⟨A', c', rfl, _, hm', h2⟩ := h2.open
  have hl : hs.length ≤ 9223372036854775807 := by omega
  have hl' : ws.length ≤ 9223372036854775807 := by omega
  have eg1 := enters_fn Try.func26 (by kernel_rfl) rfl
  have eg2 := enters_fn Try.func29 (by kernel_rfl) rfl
  have ba : ∀ o, Below w.heap.size w (w.alloc o) := fun o => (Below.refl _ _).alloc (Nat.le_refl _) o
  by_cases g1 : 64 < hs.length
  · go_enter Try.func11, Try.ntmps11
    go_wp2_with fail
    go_ret
    exact ⟨ret_int (by simp [chk, g1]), ba _⟩
  by_cases g2 : 200 < ws.length
  · go_enter Try.func11, Try.ntmps11
    go_wp2_with fail
    go_ret
    exact ⟨ret_int (by simp [chk, g2]), ba _⟩
  have C1 := Lib.hid (fun W (hb : Below w.heap.size w W) => containsFuncI_any badH 26 #[] eg1 _ hs W (h1.up hb) fun W' x _ _ => (check1_any x W').mono fun _ _ ⟨he, hw⟩ => ⟨he, hw ▸ Below.refl _ _⟩)
  have C2 := Lib.hid (fun W (hb : Below w.heap.size w W) (hc : W.cell? ⟨w.heap.size, 0, none⟩ = some (.slice A hs.length c)) =>
    containsFuncW_any (badW hs.length) 29 #[.pointer (some ⟨w.heap.size, 0, none⟩)] eg2 _ ws W (h2.up hb) fun W' x hb' _ => check2_any x w.heap.size A hs.length c W' (by
      have := hb'.cell (p := ⟨w.heap.size, 0, none⟩) (World.block_lt_of_cell? _ _ hc)
      rw [this]; exact hc))
  clear eg1 eg2 h1
  have hchk := Lib.hid (show chk ⟨hs, ws⟩ = if hs.any badH then 7 else if ws.any (badW hs.length) then 7 else if asc ws then 0 else 6 by simp [chk, g1, g2])
  cases q1 : hs.any badH with
  | true =>
    have H1 := Lib.hid q1
    clear q1
    go_enter Try.func11, Try.ntmps11
    go_wp2_with (go_at_call 25; refine (C1.out _ (ba _)).mono ?_; rw [H1.out]; rintro e w1 ⟨rfl, hb1⟩)
    go_ret
    exact ⟨ret_int (by rw [hchk.out, H1.out]; rfl), (ba _).trans (hb1.mono (by simp))⟩
  | false =>
    cases q2 : ws.any (badW hs.length) with
    | true =>
      have H1 := Lib.hid q1
      have H2 := Lib.hid q2
      clear q1 q2
      go_enter Try.func11, Try.ntmps11
      go_wp2_with (go_at_call 25; refine (C1.out _ (ba _)).mono ?_; rw [H1.out]; rintro e w1 ⟨rfl, hb1⟩; have k0 := box_cell hb1 0 _ rfl; have k1 := box_cell hb1 1 _ rfl)
      refine (C2.out _ ((ba _).trans (hb1.mono (by simp))) k0).mono ?_
      rw [H2.out]
      rintro e w2 ⟨rfl, hb2⟩
      go_wp2_with fail
      go_ret
      exact ⟨ret_int (by rw [hchk.out, H1.out, H2.out]; rfl), ((ba _).trans (hb1.mono (by simp))).trans (hb2.mono (by have := box_lt hb1; omega))⟩
    | false =>
      have H1 := Lib.hid q1
      have H2 := Lib.hid q2
      clear q1 q2
      go_enter Try.func11, Try.ntmps11
      go_wp2_with (go_at_call 25; refine (C1.out _ (ba _)).mono ?_; rw [H1.out]; rintro e w1 ⟨rfl, hb1⟩; have k0 := box_cell hb1 0 _ rfl; have k1 := box_cell hb1 1 _ rfl)
      have hb1' : Below w.heap.size w w1 := (ba _).trans (hb1.mono (by simp))
      refine (C2.out _ hb1' k0).mono ?_
      rw [H2.out]
      rintro e w2 ⟨rfl, hb2⟩
      have hb2' : Below w.heap.size w w2 := hb1'.trans (hb2.mono hb1'.size)
      have l0 := cell_later hb2 k0
      have l1 := cell_later hb2 k1
      have HB := Lib.hid hb2'
      have H3 := Lib.hid (h2.up hb2')
      clear hb1 hb1' hb2 hb2' k0 k1 C1 C2 ba h2
      go_wp2_with fail
      go_loopw [3] (fun i wr => ∃ k n : Nat, 1 ≤ k ∧ i = .int .i64 k ∧ wr = w2.drewN n ∧ Hid (∀ j, (hj : j + 1 < k) → (hj' : j + 1 < ws.length) → ws[j].task < ws[j + 1].task)) (fun i _ => ws.length - (intOf i).toNat)
      case atStart => exact ⟨1, 0, by omega, rfl, rfl, fun j hj => by omega⟩
      case round =>
        obtain ⟨k, n, hk, rfl, rfl, hall⟩ := hrel
        by_cases hlt : k < ws.length
        · obtain ⟨b, off, rfl, hbl, e0, _, _, _⟩ := H3.out.atW hlt
          obtain ⟨b', off', he, _, e1, _, _, _⟩ := H3.out.atW (k := k - 1) (by omega)
          injection he with he
          injection he with he1 he2
          subst he1 he2
          by_cases hle : ws[k].task ≤ ws[k - 1].task
          · go_wp2_with fail
            go_quiet (fail)
            go_wp2_with fail
            go_ret
            refine ⟨ret_int ?_, bdN (bdN HB.out _) _⟩
            rw [hchk.out, H1.out, H2.out, asc_false (j := k - 1) (by omega) (by simpa [show k - 1 + 1 = k from by omega] using hle)]
            rfl
          · go_wp2_with fail
            go_quiet (fail)
            go_wp2_with fail
            go_roundw
            case rel =>
              refine ⟨k + 1, _, by omega, by go_num, rfl, fun j hj hj' => ?_⟩
              by_cases e : j + 1 = k
              · subst e
                simp only [Nat.add_sub_cancel] at hle
                omega
              · exact hall.out j (by omega) hj'
            case measure => simp [intOf]; omega
        · go_wp2_with fail
          go_ret
          refine ⟨ret_int ?_, bdN HB.out _⟩
          rw [hchk.out, H1.out, H2.out, asc_true fun j hj => hall.out j (by omega) hj]
          rfl

/-- The error of a state, a task and a lock. -/
def askd (s : St) (t l : Int) : Int := if chk s ≠ 0 then chk s else if tsk t = true ∧ 0 ≤ l ∧ l < s.hs.length then 0 else 7


set_option maxHeartbeats 800000 in
theorem asked_any (v1 v2 : Value) (s : St) (t l : Int) (w : World) (h1 : Sl intR w v1 s.hs) (h2 : Sl wtR w v2 s.ws) :
    Calls Try.prog 32 #[.agg #[v1, v2], .int .i64 t, .int .i64 l] w fun e w' => e = .returned (.int .i64 (askd s t l)) ∧ Below w.heap.size w w' := by
  obtain ⟨A, c, rfl, _, hm, h1⟩ := h1.open
  obtain ⟨A', c', rfl, _, hm', h2⟩ := h2.open
  have hl : s.hs.length ≤ 9223372036854775807 := by omega
  have C1 := Lib.hid (fun W (hb : Below w.heap.size w W) => check_any _ _ s W (h1.up hb) (h2.up hb))
  clear h1 h2
  by_cases q1 : chk s = 0
  · have H1 := Lib.hid q1
    clear q1
    cases q2 : tsk t with
    | true =>
      have H2 := Lib.hid q2
      have C2 := Lib.hid (task_any t)
      clear q2
      by_cases g1 : l < 0
      · go_enter Try.func32, Try.ntmps32
        go_wp2_with (first
          | (go_at_call 11; refine (C1.out _ (ba _ _)).mono ?_; rw [H1.out]; rintro e w1 ⟨rfl, hb1⟩; have k0 := box_cell hb1 0 _ rfl)
          | (go_at_call 27; refine (C2.out _).mono ?_; rw [H2.out]; rintro e w' ⟨rfl, rfl⟩))
        go_ret
        exact ⟨ret_int (by simp [askd, H1.out]; omega), (ba _ _).trans (hb1.mono (by simp))⟩
      · by_cases g2 : l < s.hs.length
        · go_enter Try.func32, Try.ntmps32
          go_wp2_with (first
            | (go_at_call 11; refine (C1.out _ (ba _ _)).mono ?_; rw [H1.out]; rintro e w1 ⟨rfl, hb1⟩; have k0 := box_cell hb1 0 _ rfl)
            | (go_at_call 27; refine (C2.out _).mono ?_; rw [H2.out]; rintro e w' ⟨rfl, rfl⟩))
          go_ret
          exact ⟨ret_int (by simp [askd, H1.out, H2.out]; omega), (ba _ _).trans (hb1.mono (by simp))⟩
        · go_enter Try.func32, Try.ntmps32
          go_wp2_with (first
            | (go_at_call 11; refine (C1.out _ (ba _ _)).mono ?_; rw [H1.out]; rintro e w1 ⟨rfl, hb1⟩; have k0 := box_cell hb1 0 _ rfl)
            | (go_at_call 27; refine (C2.out _).mono ?_; rw [H2.out]; rintro e w' ⟨rfl, rfl⟩))
          go_ret
          exact ⟨ret_int (by simp [askd, H1.out]; omega), (ba _ _).trans (hb1.mono (by simp))⟩
    | false =>
      have H2 := Lib.hid q2
      have C2 := Lib.hid (task_any t)
      clear q2
      go_enter Try.func32, Try.ntmps32
      go_wp2_with (first
        | (go_at_call 11; refine (C1.out _ (ba _ _)).mono ?_; rw [H1.out]; rintro e w1 ⟨rfl, hb1⟩; have k0 := box_cell hb1 0 _ rfl)
        | (go_at_call 27; refine (C2.out _).mono ?_; rw [H2.out]; rintro e w' ⟨rfl, rfl⟩))
      go_ret
      exact ⟨ret_int (by simp [askd, H1.out, H2.out]), (ba _ _).trans (hb1.mono (by simp))⟩
  · have hn : (chk s != 0) = true := by simpa using q1
    have H1 := Lib.hid q1
    clear q1
    go_enter Try.func32, Try.ntmps32
    go_wp2_with (go_at_call 11; refine (C1.out _ (ba _ _)).mono ?_; rintro e w1 ⟨rfl, hb1⟩; have k0 := box_cell hb1 0 _ rfl)
    go_ret
    exact ⟨ret_int (by rw [askd, if_pos H1.out]), (ba _ _).trans (hb1.mono (by simp))⟩
end Go.Proofs.Ytgmjfmajdnoogaa
