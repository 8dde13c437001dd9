/-
  What the law ModelTicks needs: a load in a region that only reads, of an opaque row; what a tick is answered. Conditions: none.
-/
import Derived.Test.YtinbjfkkpcpokaaGreatDoorLmG
import Derived.StillTailTactics
namespace Go.Proofs.YtinbjfkkpcpokaaGreatDoor
open Go.RowKit

section
variable {P : Program} {ops : Array Oper} {rest : List Oper} {op : Oper} {a : Act} {w : World} {Q : Act → Prop}
theorem wpStill_load_mid (hw : Region.wanted op (yielded ops a.tmps) = true) (ty : TypeId) (x : Operand) (ho : op.op = .load ty x) (b o : Nat) (hx : a.eval x = .pointer (some ⟨b, o, none⟩)) (cs : List Value) (d : TypeDesc) (hc : w.rangeAt b o cs)
    (hu : P.underlying ty = some d) (hd : d.isRow = true) (hi : (P.info? ty).map (·.size) = some cs.length) (h : wpStill P ops w Q rest (a.put op.dst (.agg cs.toArray))) : wpStill P ops w Q (op :: rest) a := by
  refine wpStill_step fun K hK => ?_
  simp only [hw, if_true]
  unfold Oper.still execOp
  simp only [ho, hx, Instr.loadAt, Instr.sureAddr, Sem.run_bind, Sem.run_pure, Result.andThen_ok, run_loadVar_mid w b o ty cs d hc hu hd hi]
  exact ⟨rfl, hK _ h⟩
end

def tkOp (t : Int) : MOp := ⟨12, 0, 0, 0, 0, 0, 0, noTk, t⟩
theorem plCheck_tk (t : Int) : plCheckM (tkOp t) = 0 := by
  unfold plCheckM
  rw [if_neg (by simp [tkOp])]
  have h : hasM (tkOp t) = hS false false false false false false false (t != 0) := rfl
  rw [h]
  show (if bits .andNot .i64 _ (usesK 12) ≠ 0 then _ else _) = _
  cases (t != 0) <;> decide
theorem tick_do (s : Md) (t : Int) : (doM s (tkOp t)).2.2 = 0 ∧ (t < s.now → (doM s (tkOp t)).2.1.err = 18) ∧
    (s.now ≤ t → (doM s (tkOp t)).2.1.err = 0 ∧ (doM s (tkOp t)).1 = (srt (tillAt (nowM s t)) (dueM (nowM s t))).foldl (fun s x => expireM s x.toNat) (nowM s t)) := by
  have ht : (targetM (tkOp t)).2.2 = 0 := by rw [targetM_err]; exact plCheck_tk t
  have hr : ∀ i k, refusedM s (tkOp t) i k = 0 := fun i k => by unfold refusedM; rw [if_pos (.inr rfl)]
  have ho : ∀ i, opM s (tkOp t) i = tickM s (tkOp t) := fun i => rfl
  have hd : doM s (tkOp t) = if (tickM s (tkOp t)).2.err ≠ 0 then (s, (tickM s (tkOp t)).2, 0) else ((tickM s (tkOp t)).1, (tickM s (tkOp t)).2, 0) := by
    unfold doM
    rw [if_neg (by simpa using ht), if_neg (by rw [hr]; simp), ho]
  rw [hd]
  unfold tickM
  by_cases h : t < s.now
  · have h' : (tkOp t).now < s.now := h
    rw [if_pos h']
    refine ⟨rfl, fun _ => rfl, fun h2 => absurd h (by omega)⟩
  · have h' : ¬ (tkOp t).now < s.now := h
    rw [if_neg h']
    exact ⟨rfl, fun h2 => absurd h2 h, fun _ => ⟨rfl, rfl⟩⟩
/-- What becomes of a seat at a tick. -/
def TickTo (s : Md) (t : Int) (i : Nat) (y : Sx) : Prop :=
  if (seatAt s i).state = 1 ∧ (seatAt s i).till ≤ t then
    (((listAt s (secOf s i)).length ≤ (dueTo (nowM s t) s.seats.length).countP (aheadB (nowM s t) i) ∧ y = ⟨0, 0, 0, (seatAt s i).serial, (seatAt s i).epoch⟩) ∨
      ∃ h : (dueTo (nowM s t) s.seats.length).countP (aheadB (nowM s t) i) < (listAt s (secOf s i)).length, y.state = 1 ∧ y.owner = (listAt s (secOf s i))[(dueTo (nowM s t) s.seats.length).countP (aheadB (nowM s t) i)] ∧ t ≤ y.till ∧ y.till - t ≤ s.ve.ttl)
  else y = seatAt s i
theorem tick_to {s : Md} (h : MdOk s) {t : Int} (ht : s.now ≤ t) (hb : Bd t) :
    (doM s (tkOp t)).1.now = t ∧ (doM s (tkOp t)).1.seats.length = s.seats.length ∧ ∀ i : Nat, i < s.seats.length → TickTo s t i (seatAt (doM s (tkOp t)).1 i) := by
  rw [((tick_do s t).2.2 ht).2]
  have h' := h.setNow ht
  obtain ⟨F, hno, hdue⟩ := tick_law h ht hb
  refine ⟨F.now, F.len, fun i hi => ?_⟩
  have hd := due_iff h' i
  unfold TickTo
  by_cases hc : (seatAt s i).state = 1 ∧ (seatAt s i).till ≤ t
  · rw [if_pos hc]
    have hc' : dueAt (nowM s t) i := hd.2 hc
    obtain ⟨A, B, e, hcnt⟩ := hdue i hi hc'
    have hx := F.due A B i e
    rw [hcnt] at hx
    unfold DueTo at hx
    have hq : listAt (nowM s t) (secOf (nowM s t) i) = listAt s (secOf s i) := rfl
    rw [hq] at hx
    split at hx
    · rename_i hn
      left
      exact ⟨by simpa using hn, hx⟩
    · rename_i o ho
      right
      obtain ⟨hl, ho⟩ := List.getElem?_eq_some_iff.1 ho
      refine ⟨hl, ?_⟩
      rw [hx]
      have hu := until_bd h' (show Bd (nowM s t).now from hb) (m := s.ve.ttl) (by have := (checkV_ok h.ve).2.2.1; omega)
      have hm := until_max h' (m := s.ve.ttl) (by have := (checkV_ok h.ve).2.2.1; omega)
      change t ≤ untilM (nowM s t) s.ve.ttl ∧ (untilM (nowM s t) s.ve.ttl = t + s.ve.ttl ∨ untilM (nowM s t) s.ve.ttl = 9223372036854775807 ∧ 9223372036854775807 < t + s.ve.ttl) at hu
      refine ⟨rfl, ho.symm, hu.1, ?_⟩
      show untilM (nowM s t) s.ve.ttl - t ≤ s.ve.ttl
      rcases hu.2 with h1 | ⟨h1, h2⟩ <;> omega
  · rw [if_neg hc]
    exact F.rest i (hno i hi fun hx => hc (hd.1 hx))
theorem tick_due {s : Md} {t : Int} {i : Nat} {y : Sx} (h : TickTo s t i y) (hd : (seatAt s i).state = 1 ∧ (seatAt s i).till ≤ t) :
    ((listAt s (secOf s i)).length ≤ (dueTo (nowM s t) s.seats.length).countP (aheadB (nowM s t) i) ∧ y = ⟨0, 0, 0, (seatAt s i).serial, (seatAt s i).epoch⟩) ∨
      ∃ h : (dueTo (nowM s t) s.seats.length).countP (aheadB (nowM s t) i) < (listAt s (secOf s i)).length, y.state = 1 ∧ y.owner = (listAt s (secOf s i))[(dueTo (nowM s t) s.seats.length).countP (aheadB (nowM s t) i)] ∧ t ≤ y.till ∧ y.till - t ≤ s.ve.ttl := by
  unfold TickTo at h
  rw [if_pos hd] at h
  exact h
theorem cnt_le {s : Md} {t : Int} (i n : Nat) : (dueTo (nowM s t) n).countP (aheadB (nowM s t) i) ≤ s.seats.length := by
  refine Nat.le_trans List.countP_le_length ?_
  unfold dueTo
  refine Nat.le_trans (dueFrom_len _ _) ?_
  rw [List.length_take]
  exact Nat.min_le_right _ _
/-- One more seat looked at. -/
theorem before_succ {s : Md} (h : MdOk s) {t : Int} (ht : s.now ≤ t) {i n : Nat} (hn : n < s.seats.length) :
    (dueTo (nowM s t) (n + 1)).countP (aheadB (nowM s t) i) = (dueTo (nowM s t) n).countP (aheadB (nowM s t) i) +
      if secOf s n = secOf s i ∧ (seatAt s n).state = 1 ∧ (seatAt s n).till ≤ t ∧ ((seatAt s n).till < (seatAt s i).till ∨ (seatAt s n).till = (seatAt s i).till ∧ n < i) then 1 else 0 := by
  have h' := h.setNow ht
  rw [dueTo_succ (nowM s t) (n := n) hn, List.countP_append]
  congr 1
  have hd := due_iff h' n
  have hs : ∀ k, secOf (nowM s t) k = secOf s k := fun _ => rfl
  have hk : ∀ k : Nat, tillAt (nowM s t) (k : Int) = (seatAt s k).till := fun k => by unfold tillAt; rw [Int.toNat_natCast]; rfl
  have ha : aheadB (nowM s t) i (n : Int) = decide (secOf s n = secOf s i ∧ ((seatAt s n).till < (seatAt s i).till ∨ (seatAt s n).till = (seatAt s i).till ∧ n < i)) := by
    have hl : lexlt (tillAt (nowM s t)) (n : Int) (i : Int) ↔ ((seatAt s n).till < (seatAt s i).till ∨ (seatAt s n).till = (seatAt s i).till ∧ n < i) := by
      unfold lexlt
      rw [hk, hk]
      omega
    unfold aheadB
    rw [Int.toNat_natCast, hs, hs, ← Bool.decide_and]
    exact decide_eq_decide.2 (and_congr_right fun _ => hl)
  by_cases hdn : dueAt (nowM s t) n
  · rw [if_pos hdn]
    have hd' := hd.1 hdn
    change (seatAt s n).state = 1 ∧ (seatAt s n).till ≤ t at hd'
    rw [List.countP_singleton, ha]
    simp only [decide_eq_true_eq]
    congr 1
    simp only [eq_iff_iff]
    constructor
    · rintro ⟨a, b⟩; exact ⟨a, hd'.1, hd'.2, b⟩
    · rintro ⟨a, _, _, b⟩; exact ⟨a, b⟩
  · rw [if_neg hdn, List.countP_nil, if_neg]
    rintro ⟨_, a, b, _⟩
    exact hdn (hd.2 ⟨a, b⟩)
end Go.Proofs.YtinbjfkkpcpokaaGreatDoor
