/-
  No statement is proved here: a drawn region, walked in parts: operations that come up in one order; two that come up in either order; a rest that only reads. Conditions: as each theorem says.
-/
import Derived.Test.YtcomfhigbjkoeaaGreatDoorLibV
namespace Go.Proofs.YtcomfhigbjkoeaaGreatDoor
open Go.RowKit
section
variable {P : Program} {ops : Array Oper} {Q : Exit → Act → World → Prop}

def midQ (Q : Exit → Act → World → Prop) (M : Act → World → Prop) : Exit → Act → World → Prop
  | .normal, a, w => M a w
  | e, a, w => Q e a w

theorem wpOp_mid {M : Act → World → Prop} {i : Nat} {K : Act → World → Prop} {a : Act} {w : World} (h : wpOp P ops (midQ Q M) i K a w) : wpOp P ops Q i K a w := by
  unfold wpOp at h ⊢
  split
  · rename_i h0; simpa [h0] using h
  · rename_i o h0
    simp only [h0] at h
    split
    · rename_i hw
      simp only [hw, if_true] at h
      refine h.imp (fun h => ?_) id
      unfold Oper.wp at h ⊢
      generalize (execOp a.eval o).run P w = r at h
      cases r with
      | ok n w' =>
        cases n <;> simp only [Oper.upon] at h ⊢ <;>
          first
            | exact h
            | exact Calls.mono h (fun e w'' he => by cases e <;> exact he)
      | halt x w' => cases x <;> simp only [Oper.upon] at h ⊢ <;> exact h
    · rename_i hw
      simp only [hw] at h
      exact h

theorem wpAny_mid {md : Region.Mode} {M : Act → World → Prop} {fuel : Nat} : ∀ (is : List Nat) (l : List Oper) (listed : Array Bool) (a : Act) (w : World), is.map (ops[·]?) = l.map some → oneB md ops is listed = true →
    (∀ a w, M a w → wpAny P md ops Q fuel (listAll is listed) a w) → wpList P ops (midQ Q M) l a w → wpAny P md ops Q (is.length + fuel) listed a w
  | [], [], listed, a, w, _, _, hM, h => by
    rw [List.length_nil, Nat.zero_add]
    exact hM a w h
  | [], _ :: _, _, _, _, hl, _, _, _ => by simp at hl
  | _ :: _, [], _, _, _, hl, _, _, _ => by simp at hl
  | i :: is, o :: l, listed, a, w, hl, hB, hM, h => by
    simp only [List.map_cons, List.cons.injEq] at hl
    simp only [oneB, Bool.and_eq_true, decide_eq_true_eq] at hB
    rw [List.length_cons, Nat.add_right_comm]
    refine ⟨fun h1 => (by rw [hB.1] at h1; cases h1), fun j hj => ?_⟩
    rw [hB.1] at hj
    have hji : j = i := by simpa using hj
    subst hji
    have hw : wpOp P ops (midQ Q M) j (wpList P ops (midQ Q M) l) a w := by unfold wpOp; simp only [hl.1]; exact h
    exact wpOp_mono (fun a' w' h' => wpAny_mid is l _ a' w' hl.2 hB.2 hM h') (wpOp_mid hw)

theorem any_start {id : Nat} {a : Act} {w : World} {l : List Oper} (hm : P.follows .mixedOrders = true) (h : wpAny P .any l.toArray Q l.length (Array.replicate l.length false) a w.drew) : (Code.region id l.toArray true).wp P Q a w :=
  wp_region_any hm (by simpa using h)

def segB (ops : Array Oper) (fuel k n : Nat) (listed : Array Bool) : Bool := decide (n ≤ fuel) && decide (k + n ≤ ops.size) && oneB .any ops (List.range' k n) listed

/-- The next n come up in the text's order. -/
theorem any_one {l : List Oper} {fuel : Nat} {listed : Array Bool} {a : Act} {w : World} (k n : Nat) (hB : segB l.toArray fuel k n listed = true)
    (h : ∀ K : Exit → Act → World → Prop, Hid (∀ a w, wpAny P .any l.toArray Q (fuel - n) (listAll (List.range' k n) listed) a w → K .normal a w) → wpList P l.toArray K ((l.drop k).take n) a w) : wpAny P .any l.toArray Q fuel listed a w := by
  simp only [segB, Bool.and_eq_true, decide_eq_true_eq] at hB
  obtain ⟨⟨h1, h2⟩, h3⟩ := hB
  have h2' : k + n ≤ l.length := by simpa using h2
  have := wpAny_mid (Q := Q) (P := P) (md := .any) (fuel := fuel - n) (List.range' k n) ((l.drop k).take n) listed a w (range_ops h2') h3 (fun _ _ h => h)
    (h (midQ Q fun a w => wpAny P .any l.toArray Q (fuel - n) (listAll (List.range' k n) listed) a w) (Lib.hid fun _ _ h => h))
  rwa [List.length_range', show n + (fuel - n) = fuel by omega] at this

def seg2B (ops : Array Oper) (fuel k n : Nat) (listed : Array Bool) : Bool := decide (n + 2 ≤ fuel) && decide (k + (n + 2) ≤ ops.size) && decide (Region.ready .any ops listed = [k, k + 1]) && oneB .any ops ((k + 1) :: List.range' (k + 2) n) (listed.setIfInBounds k true) &&
  oneB .any ops (k :: List.range' (k + 2) n) (listed.setIfInBounds (k + 1) true)

/-- The next two come up in either order, then n in the text's order. -/
theorem any_two {l : List Oper} {fuel : Nat} {listed : Array Bool} {a : Act} {w : World} (k n : Nat) (hB : seg2B l.toArray fuel k n listed = true)
    (h : ∀ K : Exit → Act → World → Prop, Hid (∀ a w, wpAny P .any l.toArray Q (fuel - (n + 2)) (listAll (List.range' k (n + 2)) listed) a w → K .normal a w) →
      wpList P l.toArray K ((l.drop k).take (n + 2)) a w ∧ wpList P l.toArray K ((l.drop (k + 1)).take 1 ++ ((l.drop k).take 1 ++ (l.drop (k + 2)).take n)) a w) : wpAny P .any l.toArray Q fuel listed a w := by
  simp only [seg2B, Bool.and_eq_true, decide_eq_true_eq] at hB
  obtain ⟨⟨⟨⟨h1, h2⟩, h3⟩, h4⟩, h5⟩ := hB
  have h2' : k + (n + 2) ≤ l.length := by simpa using h2
  obtain ⟨f, rfl⟩ : ∃ f, fuel = f + 1 := ⟨fuel - 1, by omega⟩
  have hM := h (midQ Q fun a w => wpAny P .any l.toArray Q (f + 1 - (n + 2)) (listAll (List.range' k (n + 2)) listed) a w) (Lib.hid fun _ _ h => h)
  obtain ⟨hA, hC⟩ := hM
  have ek : l.toArray[k]? = some l[k] := by simp
  have ek1 : l.toArray[k + 1]? = some l[k + 1] := by simp
  have d1 : (l.drop k).take (n + 2) = l[k] :: l[k + 1] :: (l.drop (k + 2)).take n := by
    rw [List.drop_eq_getElem_cons (by omega), List.drop_eq_getElem_cons (i := k + 1) (by omega), List.take_succ_cons, List.take_succ_cons]
  have d2 : (l.drop (k + 1)).take 1 ++ ((l.drop k).take 1 ++ (l.drop (k + 2)).take n) = l[k + 1] :: l[k] :: (l.drop (k + 2)).take n := by
    rw [List.drop_eq_getElem_cons (i := k + 1) (by omega), List.drop_eq_getElem_cons (i := k) (by omega)]
    rfl
  rw [d1] at hA
  rw [d2] at hC
  have hops : (List.range' (k + 2) n).map (fun i => l.toArray[i]?) = ((l.drop (k + 2)).take n).map some := range_ops (by omega)
  have hlist : ∀ (x : Array Bool), listAll (List.range' k (n + 2)) x = listAll (List.range' (k + 2) n) ((x.setIfInBounds k true).setIfInBounds (k + 1) true) := fun x => by
    rw [List.range'_succ, List.range'_succ]; rfl
  refine ⟨fun h0 => (by rw [h3] at h0; cases h0), fun i hi => ?_⟩
  rw [h3] at hi
  simp only [List.mem_cons, List.not_mem_nil, or_false] at hi
  rcases hi with rfl | rfl
  · have hw : wpOp P l.toArray (midQ Q fun a w => wpAny P .any l.toArray Q (f + 1 - (n + 2)) (listAll (List.range' i (n + 2)) listed) a w) i (wpList P l.toArray (midQ Q fun a w => wpAny P .any l.toArray Q (f + 1 - (n + 2)) (listAll (List.range' i (n + 2)) listed) a w) (l[i + 1] :: (l.drop (i + 2)).take n)) a w := by
      unfold wpOp; simp only [ek]; exact hA
    refine wpOp_mono (fun a' w' hh => ?_) (wpOp_mid hw)
    have := wpAny_mid (md := .any) (Q := Q) (P := P) (fuel := f + 1 - (n + 2)) ((i + 1) :: List.range' (i + 2) n) (l[i + 1] :: (l.drop (i + 2)).take n) _ a' w' (by simp only [List.map_cons, ek1, hops]) h4
      (fun a w hR => by rw [hlist] at hR; exact hR) hh
    rw [List.length_cons, List.length_range', show n + 1 + (f + 1 - (n + 2)) = f by omega] at this
    exact this
  · have hw : wpOp P l.toArray (midQ Q fun a w => wpAny P .any l.toArray Q (f + 1 - (n + 2)) (listAll (List.range' k (n + 2)) listed) a w) (k + 1) (wpList P l.toArray (midQ Q fun a w => wpAny P .any l.toArray Q (f + 1 - (n + 2)) (listAll (List.range' k (n + 2)) listed) a w) (l[k] :: (l.drop (k + 2)).take n)) a w := by
      unfold wpOp; simp only [ek1]; exact hC
    refine wpOp_mono (fun a' w' hh => ?_) (wpOp_mid hw)
    have := wpAny_mid (md := .any) (Q := Q) (P := P) (fuel := f + 1 - (n + 2)) (k :: List.range' (k + 2) n) (l[k] :: (l.drop (k + 2)).take n) _ a' w' (by simp only [List.map_cons, ek, hops]) h5
      (fun a w hR => by rw [hlist, Array.setIfInBounds_comm _ _ (by omega)] at hR; exact hR) hh
    rw [List.length_cons, List.length_range', show n + 1 + (f + 1 - (n + 2)) = f by omega] at this
    exact this

def lastB (ops : Array Oper) (fuel k : Nat) (listed : Array Bool) : Bool := Region.noSelect ops && decide (fuel = ops.size - k) && Region.lexFrom .any ops (ops.size - k) k listed

/-- The rest only reads. -/
theorem any_rest {l : List Oper} {fuel : Nat} {listed : Array Bool} {a : Act} {w : World} (k : Nat) (hB : lastB l.toArray fuel k listed = true)
    (h : wpQuiet P l.toArray (fun w' => ∃ p, w' = gro w p) (fun a' => ∀ w', (∃ p, w' = gro w p) → Q .normal a' w') (l.drop k) a) : wpAny P .any l.toArray Q fuel listed a w := by
  simp only [lastB, Bool.and_eq_true, decide_eq_true_eq] at hB
  obtain ⟨⟨hsel, hf⟩, hl⟩ := hB
  have hf' : fuel = (l.drop k).length := by simpa using hf
  rw [hf']
  refine wpAny_of_quiet (C := fun w' => ∃ p, w' = gro w p) (Q := fun a' => ∀ w', (∃ p, w' = gro w p) → Q .normal a' w') (fun _ w' hw' h => h w' hw') _ _ _ _ ⟨_, gro_self w⟩ (wpAnyQ_lex hsel (l.drop k) k listed a (fun j => by simp [List.getElem?_drop]) ?_ h)
  simpa using hl
end
end Go.Proofs.YtcomfhigbjkoeaaGreatDoor
