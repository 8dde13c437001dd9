/-
  What the laws ModelWaits, ModelTicks, ModelOne share: the venue stays; a seat, a list of waiters, read out of a state in memory. Conditions: none.
-/
import Derived.Test.YtinbjfkkpcpokaaGreatDoorLmE
import Derived.Test.YtinbjfkkpcpokaaGreatDoorLmD
import Derived.Test.YtinbjfkkpcpokaaGreatDoorLmC
namespace Go.Proofs.YtinbjfkkpcpokaaGreatDoor
open Go.RowKit

theorem newM_ve {x : Ve} (h : (newM x).2 = 0) : (newM x).1.ve = x ∧ (newM x).1.now = 0 := by
  unfold newM at h ⊢
  by_cases h1 : (seatsV x).2 ≠ 0
  · rw [if_pos h1] at h; exact absurd h h1
  · rw [if_neg h1]; exact ⟨rfl, rfl⟩
theorem foldE_ve : ∀ (l : List Int) (s : Md), (l.foldl (fun s x => expireM s x.toNat) s).ve = s.ve
  | [], _ => rfl
  | x :: l, s => by rw [List.foldl_cons, foldE_ve l, (expireM_same s x.toNat).1]
theorem freedM_ve (s : Md) (k : Nat) (x : Sx) (e : Int) : (freedM s k x e).1.ve = s.ve := by
  unfold freedM
  show (if e = 0 then offerM (setM s k x) k else s).ve = s.ve
  split
  · exact (offerM_same _ _).1
  · rfl
theorem holdsM_ve (s : Md) (o t : Int) (f : Nat) : ∀ k, (holdsM s o t f k).ve = s.ve
  | 0 => rfl
  | k + 1 => holdsM_ve s o t f k
theorem opM_ve (s : Md) (op : MOp) (k : Nat) : (opM s op k).1.ve = s.ve :=
  opM_kinds (C := fun M => M.1.ve = s.ve) s op k (fun _ => rfl) (fun _ => by unfold holdM; split <;> rfl) (fun _ => by unfold blockM; split; rfl; exact holdsM_ve _ _ _ _ _) (fun _ => freedM_ve _ _ _ _) (fun _ => by unfold buyM soldM; split <;> rfl)
    (fun _ => by unfold transferM soldM; split <;> rfl) (fun _ => freedM_ve _ _ _ _) (fun _ => freedM_ve _ _ _ _) (fun _ => rfl) (fun _ => by unfold joinM; split; rfl; split <;> rfl) (fun _ => by unfold leaveM; split <;> rfl) (fun _ => by unfold tickM; split; rfl; exact foldE_ve _ _)
theorem doM_ve (s : Md) (op : MOp) : (doM s op).1.ve = s.ve := by
  unfold doM
  split
  · rfl
  split
  · rfl
  split
  · rfl
  · exact opM_ve _ _ _
theorem stAt_ve (s : Md) (ops : List MOp) : ∀ k, k ≤ ops.length → (stAt s ops k).ve = s.ve
  | 0, _ => rfl
  | k + 1, hk => by rw [stAt_succ s (by omega), doM_ve, stAt_ve s ops k (by omega)]
theorem doM_now (s : Md) (op : MOp) (h : Bd s.now) (ho : OpOk op) : Bd (doM s op).1.now := by
  have hop : ∀ k, Bd (opM s op k).1.now := fun k =>
    opM_kinds (C := fun M => Bd M.1.now) s op k (fun _ => h) (fun _ => by unfold holdM; split <;> exact h) (fun _ => by unfold blockM; split; exact h; rw [show (holdsM s op.owner _ _ _).now = s.now from holdsM_now _ _ _ _ _]; exact h)
      (fun _ => by unfold releaseM; rw [freedM_now]; exact h) (fun _ => by unfold buyM soldM; split <;> exact h) (fun _ => by unfold transferM soldM; split <;> exact h) (fun _ => by unfold refundM; rw [freedM_now]; exact h) (fun _ => by unfold revokeM; rw [freedM_now]; exact h) (fun _ => h)
      (fun _ => by unfold joinM; split; exact h; split <;> exact h) (fun _ => by unfold leaveM; split <;> exact h) (fun _ => by unfold tickM; split; exact h; rw [foldE_now]; exact ho.2.2.2.2.2.2.2.2)
  unfold doM
  split
  · exact h
  split
  · exact h
  split
  · exact h
  · exact hop _
where
  holdsM_now (s : Md) (o t : Int) (f : Nat) : ∀ k, (holdsM s o t f k).now = s.now
    | 0 => rfl
    | k + 1 => holdsM_now s o t f k
  freedM_now (s : Md) (k : Nat) (x : Sx) (e : Int) : (freedM s k x e).1.now = s.now := by
    unfold freedM
    show (if e = 0 then offerM (setM s k x) k else s).now = s.now
    split
    · exact (offerM_same _ _).2.1
    · rfl
  foldE_now : ∀ (l : List Int) (s : Md), (l.foldl (fun s x => expireM s x.toNat) s).now = s.now
    | [], _ => rfl
    | x :: l, s => by rw [List.foldl_cons, foldE_now l, (expireM_same s x.toNat).2.1]

theorem until_max {s : Md} (h : MdOk s) {m : Int} (hm : 0 ≤ m) : untilM s m ≤ 9223372036854775807 := by
  have := h.now
  unfold untilM addT
  rw [if_neg (by omega)]
  split
  · exact Int.le_refl _
  · show s.now + m ≤ _
    omega
/-- What the law 'section' asks of a venue. -/
theorem secs_ok {x : Ve} (h : (checkV x).2 = 0) : x.secs.length ≤ 8 ∧ ∀ s, s ∈ x.secs → s.rows.length ≤ 16 ∧ ∀ n, n ∈ s.rows → 1 ≤ n ∧ n ≤ 64 := by
  have hc := (checkV_ok h).1
  refine ⟨hc.1, fun s hs => ?_⟩
  obtain ⟨j, hj, rfl⟩ := List.getElem_of_mem hs
  have := secE_ok (hc.2 j hj)
  exact ⟨this.1, this.2.1⟩
/-- A seat of a state in memory. -/
theorem IsMd.seatIn {W : World} {F : MFrm} {s : Md} (h : IsMd W F s) {i : Nat} (hi : i < s.seats.length) :
    ∃ b off, F.A = some ⟨b, off, none⟩ ∧ b < W.heap.size ∧ W.rangeAt b (off + i * 5) (sxCells (seatAt s i)) ∧ SxOk (seatAt s i) := by
  obtain ⟨b, off, h1, h2, c0, c1, c2, c3, c4, hx⟩ := h.seats.atX hi
  have e : seatAt s i = s.seats[i] := by unfold seatAt; rw [List.getD_eq_getElem?_getD, List.getElem?_eq_getElem hi]; rfl
  rw [e]
  refine ⟨b, off, h1, h2, fun j u hu => ?_, hx⟩
  match j, hu with
  | 0, hu => simp [sxCells] at hu; rw [← hu]; exact c0
  | 1, hu => simp [sxCells] at hu; rw [← hu]; exact c1
  | 2, hu => simp [sxCells] at hu; rw [← hu]; exact c2
  | 3, hu => simp [sxCells] at hu; rw [← hu]; exact c3
  | 4, hu => simp [sxCells] at hu; rw [← hu]; exact c4
  | j + 5, hu => simp [sxCells] at hu
/-- A list of waiters of a state in memory. -/
theorem IsMd.listIn {W : World} {F : MFrm} {s : Md} (h : IsMd W F s) {k : Nat} (hk : k < s.qs.length) :
    ∃ b off A c, F.Q = some ⟨b, off, none⟩ ∧ b < W.heap.size ∧ W.cell? ⟨b, off + k, none⟩ = some (.slice A (listAt s k).length c) ∧ Sl u32R W (.slice A (listAt s k).length c) (listAt s k) := by
  obtain ⟨b, off, A, c, h1, h2, c0, hx⟩ := h.qs.atQ hk
  have e : listAt s k = s.qs[k] := by unfold listAt; rw [List.getD_eq_getElem?_getD, List.getElem?_eq_getElem hk]; rfl
  rw [e]
  exact ⟨b, off, A, c, h1, h2, c0, hx⟩
end Go.Proofs.YtinbjfkkpcpokaaGreatDoor
