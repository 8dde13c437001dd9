/-
  Walks of slices.Clone at the types of package locks. Conditions: as each theorem says.
-/
import Derived.Test.YtgmjfmajdnoogaaLkC
namespace Go.Proofs.Ytgmjfmajdnoogaa
open Go.RowKit
theorem wtR_flat : wtR.flat := fun _ _ _ _ h => h

theorem infoI : (Try.prog.info? 3).map (fun i => (i.zero, i.size, i.bytes)) = some (some (.int .i64 0), intR.size, 8) := by kernel_rfl

set_option maxHeartbeats 400000 in
theorem cloneI_any (v : Value) (xs : List Int) (w : World) (hs : Sl intR w v xs) (hsz : xs.length * 8 ≤ 140737488355328) :
    Calls Try.prog 46 #[v] w fun e w' => ∃ v', e = .returned v' ∧ Own intR 3 w.heap.size w' v' xs ∧ Below w.heap.size w w' := by
  obtain ⟨A, c, rfl, hc, hm, hs⟩ := hs.open
  have q := fun (W : World) (A : Option Addr) (n c : Nat) => Lib.run_eql_slice_nil (P := Try.prog) W 22 3 A n c 0 0 Try.underlying22
  have hs0 := hs
  obtain ⟨A', c', he, _, _, hA⟩ := hs
  injection he with e1 e2 e3
  subst e1 e3
  rcases hA with ⟨rfl, h0⟩ | ⟨b, off, rfl, hlt, _⟩
  · subst h0
    have hx : xs = [] := List.eq_nil_of_length_eq_zero (by omega)
    subst hx
    go_enter Try.func46, Try.ntmps46
    go_wp2_with fail
    go_ret
    exact ⟨_, rfl, Own.nil _ _ _ _, Below.refl _ _⟩
  · have HS := Lib.hid hs0
    clear hs0
    go_enter Try.func46, Try.ntmps46
    go_wp2_with (at_builtin; refine wpList_append_sl _ rfl (.tmp 5) (.tmp 6) 22 rfl intR w.heap.size 3 _ 8 Try.underlying22 infoI rfl (by decide) _ [] rfl (Own.empty _ _ _ (Nat.le_refl _)) _ xs rfl (HS.out.up (ba _ _)) (by simpa using hsz) (by decide) (by simp) (fun w' _ cs y h => intR_flat _ _ _ _ h) ?_; intro v1 w1 hown1 hg1 hat1)
    go_ret
    refine ⟨v1, rfl, by simpa using hown1, (ba _ _).grown hg1 (by simp) fun k hk => ?_⟩
    cases hk
    exact Nat.le_refl _

theorem infoW : (Try.prog.info? 33).map (fun i => (i.zero, i.size, i.bytes)) = some (some (.agg #[.int .i64 0, .int .i64 0]), wtR.size, 16) := by kernel_rfl

set_option maxHeartbeats 400000 in
theorem cloneW_any (v : Value) (xs : List Wt) (w : World) (hs : Sl wtR w v xs) (hsz : xs.length * 16 ≤ 140737488355328) :
    Calls Try.prog 48 #[v] w fun e w' => ∃ v', e = .returned v' ∧ Own wtR 33 w.heap.size w' v' xs ∧ Below w.heap.size w w' := by
  obtain ⟨A, c, rfl, hc, hm, hs⟩ := hs.open
  have q := fun (W : World) (A : Option Addr) (n c : Nat) => Lib.run_eql_slice_nil (P := Try.prog) W 23 33 A n c 0 0 Try.underlying23
  have hs0 := hs
  obtain ⟨A', c', he, _, _, hA⟩ := hs
  injection he with e1 e2 e3
  subst e1 e3
  rcases hA with ⟨rfl, h0⟩ | ⟨b, off, rfl, hlt, _⟩
  · subst h0
    have hx : xs = [] := List.eq_nil_of_length_eq_zero (by omega)
    subst hx
    go_enter Try.func48, Try.ntmps48
    go_wp2_with fail
    go_ret
    exact ⟨_, rfl, Own.nil _ _ _ _, Below.refl _ _⟩
  · have HS := Lib.hid hs0
    clear hs0
    go_enter Try.func48, Try.ntmps48
    go_wp2_with (at_builtin; refine wpList_append_sl _ rfl (.tmp 5) (.tmp 6) 23 rfl wtR w.heap.size 33 _ 16 Try.underlying23 infoW rfl (by decide) _ [] rfl (Own.empty _ _ _ (Nat.le_refl _)) _ xs rfl (HS.out.up (ba _ _)) (by simpa using hsz) (by decide) (by simp) (fun w' _ cs y h => wtR_flat _ _ _ _ h) ?_; intro v1 w1 hown1 hg1 hat1)
    go_ret
    refine ⟨v1, rfl, by simpa using hown1, (ba _ _).grown hg1 (by simp) fun k hk => ?_⟩
    cases hk
    exact Nat.le_refl _
end Go.Proofs.Ytgmjfmajdnoogaa
