/-
  At the greatest serial and the greatest epoch: the plain law of ModelEnds. Conditions: none.
-/
import Derived.Test.YtinbjfkkpcpokaaGreatDoorLmE
import Derived.Test.YtinbjfkkpcpokaaGreatDoorLmC
namespace Go.Proofs.YtinbjfkkpcpokaaGreatDoor
open Go.RowKit

theorem lmS_ok : MdOk lmS := by
  have h := newM_ok (x := lmV) (by rw [lm_new])
  rw [lm_new] at h
  exact h
/-- A seat that is held, and one that is sold. -/
def enX (st o d se ep : Int) : Sx := ⟨st, o, d, se, ep⟩
def enS (st o d se ep : Int) : Md := setM lmS 0 (enX st o d se ep)
theorem enS_ok1 (o se ep : Int) : MdOk (enS 1 o 5 se ep) := lmS_ok.set 0 rfl
theorem enS_ok2 (o se ep : Int) : MdOk (enS 2 o 0 se ep) := lmS_ok.set 0 rfl
theorem enS_again (st o d se ep st' o' d' se' ep' : Int) : setM (enS st o d se ep) 0 (enX st' o' d' se' ep') = enS st' o' d' se' ep' := by
  simp [enS, setM, lmS]
def enOp1 (o : Int) : MOp := ⟨5, o, 9, 0, 0, 0, 0, noTk, 0⟩
def enOp2 (o too se ep : Int) : MOp := ⟨6, o, 9, 0, 0, 0, too, ⟨0, o, se, ep⟩, 0⟩
def enOp3 : MOp := ⟨8, 0, 9, 0, 0, 0, 0, noTk, 0⟩
/-- What is answered: exhausted at the greatest number, and nothing changes; done otherwise. -/
def EnOk (s : Md) (N : Md × MRp × Int) (n : Int) : Prop := N.2.2 = 0 ∧ ((N.2.1.err = 17 ∧ n = 18446744073709551615 ∧ N.1 = s) ∨ (N.2.1.err = 0 ∧ n ≠ 18446744073709551615))
theorem en_err {s : Md} {op : MOp} {n : Int} (h1 : (doM s op).2.2 = 0) (h2 : ((doM s op).2.1.err = 17 ∧ n = 18446744073709551615) ∨ ((doM s op).2.1.err = 0 ∧ n ≠ 18446744073709551615)) : EnOk s (doM s op) n := by
  refine ⟨h1, ?_⟩
  rcases h2 with ⟨a, b⟩ | h2
  · exact .inl ⟨a, b, doM_keeps s op (.inr (.inl (by rw [a]; decide)))⟩
  · exact .inr h2
theorem en_pl1 (o : Int) : plCheckM (enOp1 o) = 0 := by
  unfold plCheckM
  rw [if_neg (by simp [enOp1])]
  have h : hasM (enOp1 o) = hS (o != 0) true false false false false false false := rfl
  rw [h]
  show (if bits .andNot .i64 _ (usesK 5) ≠ 0 then _ else _) = _
  cases (o != 0) <;> decide
theorem en_pl2 (o too se ep : Int) : plCheckM (enOp2 o too se ep) = 0 := by
  unfold plCheckM
  rw [if_neg (by simp [enOp2])]
  have h : hasM (enOp2 o too se ep) = hS (o != 0) true false false false (too != 0) ((⟨0, o, se, ep⟩ : Tk) != noTk) false := rfl
  rw [h]
  show (if bits .andNot .i64 _ (usesK 6) ≠ 0 then _ else _) = _
  cases (o != 0) <;> cases (too != 0) <;> cases ((⟨0, o, se, ep⟩ : Tk) != noTk) <;> decide
theorem en_pl3 : plCheckM enOp3 = 0 := by decide
theorem en_do {s : Md} {op : MOp} {M : Md × MRp} (h1 : (targetM op).2.2 = 0) (h2 : refusedM s op (targetM op).1 (targetM op).2.1 = 0) (h3 : opM s op (targetM op).1.toNat = M) : (doM s op).2.2 = 0 ∧ (doM s op).2.1.err = M.2.err := by
  unfold doM
  rw [if_neg (by simpa using h1), if_neg (by simpa using h2), h3]
  split <;> exact ⟨rfl, rfl⟩
theorem en_seat (st o d se ep : Int) : seatAt (enS st o d se ep) 0 = enX st o d se ep := seatAt_set_self (by decide) _
theorem en1 (o se ep : Int) : EnOk (enS 1 o 5 se ep) (doM (enS 1 o 5 se ep) (enOp1 o)) se := by
  have ht : targetM (enOp1 o) = (0, -1, 0) := target_seat (op := enOp1 o) (by rw [targetM_err]; exact en_pl1 o) (.inr (.inr (.inl rfl)))
  have hop : opM (enS 1 o 5 se ep) (enOp1 o) 0 = buyM (enS 1 o 5 se ep) (enOp1 o) 0 := rfl
  have hd := en_do (s := enS 1 o 5 se ep) (op := enOp1 o) (by rw [ht]) (by rw [ht]; rfl) ((congrArg (fun z : Int × Int × Int => opM _ _ z.1.toNat) ht).trans hop)
  refine en_err hd.1 ?_
  rw [hd.2]
  unfold buyM soldM
  rw [en_seat]
  have hb : sxBuy (enX 1 o 5 se ep) (enOp1 o).owner = sxIssue (enX 1 o 5 se ep) o := by
    have : sxMine (enX 1 o 5 se ep) (enOp1 o).owner = 0 := by
      have h0 : sxState (enX 1 o 5 se ep) 1 = 0 := rfl
      unfold sxMine
      rw [h0, if_neg (by decide)]
      exact if_neg (by simp [enX, enOp1])
    unfold sxBuy
    rw [this]
    rfl
  rw [hb]
  unfold sxIssue
  by_cases hs : se = 18446744073709551615
  · left
    rw [if_pos (show (enX 1 o 5 se ep).serial = _ from hs)]
    exact ⟨rfl, hs⟩
  · right
    rw [if_neg (show ¬ (enX 1 o 5 se ep).serial = _ from hs)]
    exact ⟨rfl, hs⟩
theorem en2 (o too se ep : Int) : EnOk (enS 2 o 0 se ep) (doM (enS 2 o 0 se ep) (enOp2 o too se ep)) se := by
  have ht : targetM (enOp2 o too se ep) = (0, -1, 0) := target_tk (op := enOp2 o too se ep) (by rw [targetM_err]; exact en_pl2 o too se ep) (.inl rfl)
  have hop : opM (enS 2 o 0 se ep) (enOp2 o too se ep) 0 = transferM (enS 2 o 0 se ep) (enOp2 o too se ep) 0 := rfl
  have hd := en_do (s := enS 2 o 0 se ep) (op := enOp2 o too se ep) (by rw [ht]) (by rw [ht]; simp [refusedM, enOp2, enS, setM, lmS, seatE]) ((congrArg (fun z : Int × Int × Int => opM _ _ z.1.toNat) ht).trans hop)
  refine en_err hd.1 ?_
  rw [hd.2]
  unfold transferM soldM
  rw [en_seat]
  have hb : sxTransfer (enX 2 o 0 se ep) (enOp2 o too se ep).tk (enOp2 o too se ep).to = sxIssue (enX 2 o 0 se ep) too := by
    have : sxValid (enX 2 o 0 se ep) (enOp2 o too se ep).tk = 0 := by
      have h0 : sxState (enX 2 o 0 se ep) 2 = 0 := rfl
      unfold sxValid
      rw [h0, if_neg (by decide)]
      exact if_pos ⟨rfl, rfl, rfl⟩
    unfold sxTransfer
    rw [this]
    rfl
  rw [hb]
  unfold sxIssue
  by_cases hs : se = 18446744073709551615
  · left
    rw [if_pos (show (enX 2 o 0 se ep).serial = _ from hs)]
    exact ⟨rfl, hs⟩
  · right
    rw [if_neg (show ¬ (enX 2 o 0 se ep).serial = _ from hs)]
    exact ⟨rfl, hs⟩
theorem en3 (o se ep : Int) : EnOk (enS 2 o 0 se ep) (doM (enS 2 o 0 se ep) enOp3) ep := by
  have ht : targetM enOp3 = (0, -1, 0) := target_seat (op := enOp3) (by rw [targetM_err]; exact en_pl3) (.inr (.inr (.inr rfl)))
  have hop : opM (enS 2 o 0 se ep) enOp3 0 = revokeM (enS 2 o 0 se ep) 0 := rfl
  have hd := en_do (s := enS 2 o 0 se ep) (op := enOp3) (by rw [ht]) (by rw [ht]; rfl) ((congrArg (fun z : Int × Int × Int => opM _ _ z.1.toNat) ht).trans hop)
  refine en_err hd.1 ?_
  rw [hd.2]
  unfold revokeM freedM
  rw [en_seat]
  have h0 : sxState (enX 2 o 0 se ep) 2 = 0 := rfl
  by_cases hs : ep = 18446744073709551615
  · left
    refine ⟨?_, hs⟩
    show (sxRevoke (enX 2 o 0 se ep)).2 = 17
    unfold sxRevoke
    rw [h0, if_neg (by decide), if_pos (show (enX 2 o 0 se ep).epoch = _ from hs)]
  · right
    refine ⟨?_, hs⟩
    show (sxRevoke (enX 2 o 0 se ep)).2 = 0
    unfold sxRevoke
    rw [h0, if_neg (by decide), if_neg (show ¬ (enX 2 o 0 se ep).epoch = _ from hs)]
end Go.Proofs.YtinbjfkkpcpokaaGreatDoor
