/-
  Plain laws for ModelOne: the marks of tickets that were replied. Conditions: none.
-/
import Derived.Test.YtinbjfkkpcpokaaGreatDoorPlMw
namespace Go.Proofs.YtinbjfkkpcpokaaGreatDoor
open Go.RowKit

/-- The marks, when the first k tickets have been looked at. -/
structure MixTo (s : Md) (als : List Tk) (G : List Bool) (k : Nat) : Prop where
  len : G.length = als.length
  done : ∀ j, (h1 : j < G.length) → (h2 : j < als.length) → j < k → G[j] = !validM s als[j]
  rest : ∀ j, (h1 : j < G.length) → (h2 : j < als.length) → k ≤ j → G[j] = true → validM s als[j] = false
theorem MixTo.nil (s : Md) : MixTo s [] [] 0 := ⟨rfl, fun j h _ _ => by simp at h, fun j h _ _ => by simp at h⟩
theorem MixTo.next {s : Md} {als : List Tk} {G : List Bool} {k : Nat} (h : MixTo s als G k) (hk : k < als.length) : MixTo s als (G.set k (!validM s als[k])) (k + 1) :=
  ⟨by rw [List.length_set]; exact h.len, fun j h1 h2 hj => by
    rw [List.length_set] at h1
    rw [List.getElem_set]
    split
    · rename_i e; subst e; rfl
    · rename_i e; exact h.done j h1 h2 (by omega), fun j h1 h2 hj => by
    rw [List.length_set] at h1
    rw [List.getElem_set, if_neg (by omega)]
    exact h.rest j h1 h2 (by omega)⟩
theorem MixTo.more {s : Md} {als : List Tk} {G : List Bool} (hh : Held1 s als) (h : MixTo s als G als.length) (op : MOp) :
    MixTo (doM s op).1 als G 0 ∧ MixTo (doM s op).1 (als ++ [(doM s op).2.1.tk]) (G ++ [false]) 0 := by
  have hl := LaterM.do_ s op
  have h1 : ∀ j, (h1 : j < G.length) → (h2 : j < als.length) → G[j] = true → validM (doM s op).1 als[j] = false := fun j h1 h2 hj => by
    have h3 := h.done j h1 h2 h2
    rw [hj] at h3
    cases hv : validM (doM s op).1 als[j] with
    | false => rfl
    | true =>
      have := gone_stays hl (hh.each _ (List.getElem_mem h2)) hv
      rw [this] at h3
      exact absurd h3 (by decide)
  refine ⟨⟨h.len, fun j _ _ hj => by omega, fun j a b _ hg => h1 j a b hg⟩, ⟨by simp [h.len], fun j _ _ hj => by omega, fun j a b _ hg => ?_⟩⟩
  by_cases hj : j < als.length
  · have hj' : j < G.length := by rw [h.len]; exact hj
    rw [List.getElem_append_left hj'] at hg
    rw [List.getElem_append_left hj]
    exact h1 j hj' hj hg
  · have e : j = als.length := by simp at b; omega
    subst e
    rw [List.getElem_append_right (by rw [h.len]; exact Nat.le_refl _)] at hg
    simp at hg
/-- No ticket that was looked at is valid beside another one of its seat. -/
theorem MixTo.alone {s : Md} {als : List Tk} {G : List Bool} {k : Nat} (hh : Held1 s als) (h : MixTo s als G (k + 1)) (hk : k < als.length) (hv : validM s als[k] = true) {n : Nat} (hn : n < k) (h1 : n < G.length) (h2 : n < als.length) (he : als[n].seat = als[k].seat) : G[n] = true := by
  rw [h.done n h1 h2 (by omega), hh.one hn hk he hv]
  rfl
/-- What is replied with a ticket: the seat's own numbers. -/
theorem op_tk (s : Md) (op : MOp) (k : Nat) : (opM s op k).2.tk = noTk ∨ (opM s op k).2.tk.seat = (k : Int) ∧ (k < s.seats.length → (opM s op k).2.tk = ⟨k, (seatAt (opM s op k).1 k).owner, (seatAt (opM s op k).1 k).serial, (seatAt (opM s op k).1 k).epoch⟩) := by
  refine opM_kinds (C := fun M => M.2.tk = noTk ∨ M.2.tk.seat = (k : Int) ∧ (k < s.seats.length → M.2.tk = ⟨k, (seatAt M.1 k).owner, (seatAt M.1 k).serial, (seatAt M.1 k).epoch⟩)) s op k (fun _ => .inl rfl) (fun _ => ?_) (fun _ => ?_) (fun _ => .inl rfl) (fun hk5 => ?_) (fun hk6 => ?_) (fun _ => .inl rfl) (fun _ => .inl rfl) (fun _ => .inl rfl) (fun _ => ?_) (fun _ => ?_) (fun _ => ?_)
  · unfold holdM
    split <;> exact .inl rfl
  · unfold blockM
    split <;> exact .inl rfl
  · unfold buyM soldM
    split
    · rename_i h0
      rw [buy_new h0, ticket_sold]
      exact .inr ⟨rfl, fun hl => by rw [seatAt_set_self hl]⟩
    · exact .inl rfl
  · unfold transferM soldM
    split
    · rename_i h0
      rw [transfer_new h0, ticket_sold]
      exact .inr ⟨rfl, fun hl => by rw [seatAt_set_self hl]⟩
    · exact .inl rfl
  · unfold joinM
    split
    · exact .inl rfl
    split <;> exact .inl rfl
  · unfold leaveM
    split <;> exact .inl rfl
  · unfold tickM
    split <;> exact .inl rfl
theorem do_tk (s : Md) (op : MOp) : (doM s op).2.1.tk = noTk ∨ ∃ k : Nat, k < s.seats.length ∧ (doM s op).2.1.tk = ⟨k, (seatAt (doM s op).1 k).owner, (seatAt (doM s op).1 k).serial, (seatAt (doM s op).1 k).epoch⟩ := by
  by_cases h0 : (doM s op).2.1.tk = noTk
  · exact .inl h0
  obtain ⟨k, hk, e1, _, _⟩ := do_new h0
  refine .inr ⟨k, hk, ?_⟩
  revert h0 e1
  unfold doM
  split
  · intro h; exact absurd rfl h
  split
  · intro h; exact absurd rfl h
  split
  · rename_i he
    intro h
    rw [opM_err he] at h
    exact absurd rfl h
  · intro h e1
    rcases op_tk s op (targetM op).1.toNat with h1 | ⟨h1, h2⟩
    · exact absurd h1 h
    · rw [h1] at e1
      have e2 : (targetM op).1.toNat = k := by have : (((targetM op).1.toNat : Nat) : Int) = k := e1; omega
      rw [e2] at h2 ⊢
      exact h2 hk
end Go.Proofs.YtinbjfkkpcpokaaGreatDoor
