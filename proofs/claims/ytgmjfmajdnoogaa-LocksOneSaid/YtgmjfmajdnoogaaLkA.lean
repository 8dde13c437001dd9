/-
  Walks of the small functions of package locks (task, the closures of Check, slices.IndexFunc, slices.ContainsFunc, slices.Index, slices.Contains), each once: what each returns. Conditions: as each theorem says.
-/
import Derived.Test.YtgmjfmajdnoogaaLib
import Derived.Test.YtgmjfmajdnoogaaProg
namespace Go.Proofs.Ytgmjfmajdnoogaa
open Go.RowKit

structure Wt where
  task : Int
  lock : Int
deriving DecidableEq
structure St where
  hs : List Int
  ws : List Wt

def wtR : Rep Wt where
  size := 2
  is _ cs x := cs = [.int .i64 x.task, .int .i64 x.lock] ∧ Bd x.task ∧ Bd x.lock
  len h := by rw [h.1]; rfl
  one h := by rw [h.1]; simp [Value.oneCell']
  up _ h := h

theorem Sl.atW {w : World} {A : Option Addr} {n c k : Nat} {xs : List Wt} (h : Sl wtR w (.slice A n c) xs) (hk : k < xs.length) :
    ∃ b off, A = some ⟨b, off, .none⟩ ∧ b < w.heap.size ∧ w.cell? ⟨b, off + k * 2, .none⟩ = some (.int .i64 xs[k].task) ∧ w.cell? ⟨b, off + k * 2 + 1, .none⟩ = some (.int .i64 xs[k].lock) ∧ Bd xs[k].task ∧ Bd xs[k].lock := by
  obtain ⟨b, off, cs, rfl, hb, ⟨rfl, hx, hy⟩, h2⟩ := h.at_ hk
  exact ⟨b, off, rfl, hb, h2 0 _ rfl, h2 1 _ rfl, hx, hy⟩

def tsk (n : Int) : Bool := decide (0 < n) && decide (n ≤ 200)

set_option maxHeartbeats 400000 in
theorem task_any (n : Int) (w : World) : Calls Try.prog 27 #[.int .i64 n] w fun e w' => e = .returned (.bool (tsk n)) ∧ w = w' := by
  by_cases h1 : 0 < n
  · by_cases h2 : n ≤ 200
    · go_enter Try.func27, Try.ntmps27
      go_wp2
      go_ret
      exact ⟨ret_bool (by simp [tsk, h1, h2]), rfl⟩
    · go_enter Try.func27, Try.ntmps27
      go_wp2
      go_ret
      exact ⟨ret_bool (by simp [tsk, h1, h2]), rfl⟩
  · go_enter Try.func27, Try.ntmps27
    go_wp2
    go_ret
    exact ⟨ret_bool (by simp [tsk]; omega), rfl⟩

def badH (n : Int) : Bool := n != 0 && !tsk n

set_option maxHeartbeats 400000 in
theorem check1_any (n : Int) (w : World) : Calls Try.prog 26 #[.int .i64 n] w fun e w' => e = .returned (.bool (badH n)) ∧ w = w' := by
  by_cases h1 : n = 0
  · subst h1
    go_enter Try.func26, Try.ntmps26
    go_wp2_with fail
    go_ret
    exact ⟨rfl, rfl⟩
  · have hn : (n != 0) = true := by simpa using h1
    have H := Lib.hid h1
    clear h1
    cases h2 : tsk n with
    | true =>
      have H2 := Lib.hid h2
      have c := task_any n
      rw [h2] at c
      clear h2
      have C := Lib.hid c
      clear c
      go_enter Try.func26, Try.ntmps26
      go_wp2_with (go_at_call 27; refine (C.out _).mono ?_; rintro e w' ⟨rfl, rfl⟩)
      go_ret
      exact ⟨ret_bool (by simp [badH, hn, H2.out]), rfl⟩
    | false =>
      have H2 := Lib.hid h2
      have c := task_any n
      rw [h2] at c
      clear h2
      have C := Lib.hid c
      clear c
      go_enter Try.func26, Try.ntmps26
      go_wp2_with (go_at_call 27; refine (C.out _).mono ?_; rintro e w' ⟨rfl, rfl⟩)
      go_ret
      exact ⟨ret_bool (by simp [badH, hn, H2.out]), rfl⟩

def badW (n : Nat) (x : Wt) : Bool := !tsk x.task || (decide (x.lock < 0) || decide ((n : Int) ≤ x.lock))

set_option maxHeartbeats 400000 in
theorem check2_any (x : Wt) (B : Nat) (A : Option Addr) (n c : Nat) (w : World) (hc : w.cell? ⟨B, 0, none⟩ = some (.slice A n c)) :
    Calls Try.prog 29 #[.agg #[.int .i64 x.task, .int .i64 x.lock], .pointer (some ⟨B, 0, none⟩)] w fun e w' => e = .returned (.bool (badW n x)) ∧ Below w.heap.size w w' := by
  have hB : B < w.heap.size := World.block_lt_of_cell? _ _ hc
  have hfin : ∀ b, tsk x.task = b → ∀ r, badW n x = r → badW n x = r := fun _ _ _ h => h
  clear hfin
  obtain ⟨t, l⟩ := x
  dsimp only
  have cc := task_any t
  cases h2 : tsk t with
  | true =>
    rw [h2] at cc
    have H2 := Lib.hid h2
    clear h2
    have C := Lib.hid cc
    clear cc
    by_cases h1 : l < 0
    · go_enter Try.func29, Try.ntmps29
      go_wp2_with (go_at_call 27; refine (C.out _).mono ?_; rintro e w' ⟨rfl, rfl⟩)
      go_ret
      exact ⟨ret_bool (by simp [badW, H2.out]; try omega), (Below.refl _ _).alloc (Nat.le_refl _) _⟩
    · by_cases h3 : (n : Int) ≤ l
      · go_enter Try.func29, Try.ntmps29
        go_wp2_with (go_at_call 27; refine (C.out _).mono ?_; rintro e w' ⟨rfl, rfl⟩)
        go_ret
        exact ⟨ret_bool (by simp [badW, H2.out]; try omega), (Below.refl _ _).alloc (Nat.le_refl _) _⟩
      · go_enter Try.func29, Try.ntmps29
        go_wp2_with (go_at_call 27; refine (C.out _).mono ?_; rintro e w' ⟨rfl, rfl⟩)
        go_ret
        exact ⟨ret_bool (by simp [badW, H2.out]; try omega), (Below.refl _ _).alloc (Nat.le_refl _) _⟩
  | false =>
    rw [h2] at cc
    have H2 := Lib.hid h2
    clear h2
    have C := Lib.hid cc
    clear cc
    go_enter Try.func29, Try.ntmps29
    go_wp2_with (go_at_call 27; refine (C.out _).mono ?_; rintro e w' ⟨rfl, rfl⟩)
    go_ret
    exact ⟨ret_bool (by simp [badW, H2.out]), (Below.refl _ _).alloc (Nat.le_refl _) _⟩

end Go.Proofs.Ytgmjfmajdnoogaa
