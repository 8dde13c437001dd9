/-
  No statement is proved here: a drawn region whose first operations come up in one order and whose rest only reads. Conditions: as each theorem says.
-/
import Derived.Test.YtcomfhigbjkoeaaGreatDoorLibT
import Derived.Test.YtcomfhigbjkoeaaGreatDoorLibQ
namespace Go.Proofs.YtcomfhigbjkoeaaGreatDoor
open Go.RowKit
section
variable {P : Program} {ops : Array Oper} {Q : Exit → Act → World → Prop} {md : Region.Mode} {w : World}

/-- What is asked behind the first operations: that the rest only reads. -/
def frontQ (P : Program) (ops : Array Oper) (Q : Exit → Act → World → Prop) (rest : List Oper) : Exit → Act → World → Prop
  | .normal, a, w => wpQuiet P ops (fun w' => ∃ p, w' = gro w p) (fun a' => ∀ w', (∃ p, w' = gro w p) → Q .normal a' w') rest a
  | e, a, w => Q e a w

theorem front_end {rest : List Oper} {a : Act} {w : World} (h : wpQuiet P ops (fun w' => ∃ p, w' = gro w p) (fun a' => ∀ w', (∃ p, w' = gro w p) → Q .normal a' w') rest a) : frontQ P ops Q rest .normal a w := h

theorem wpOp_front {rest : List Oper} {i : Nat} {K : Act → World → Prop} {a : Act} {w : World} (h : wpOp P ops (frontQ P ops Q rest) i K a w) : wpOp P ops Q i K a w := by
  unfold wpOp at h ⊢
  split
  · rename_i h0; simpa [h0] using h
  · rename_i o h0
    simp only [h0] at h
    split
    · rename_i hw
      simp only [hw, if_true] at h
      refine h.imp (fun h => ?_) id
      unfold Oper.wp at h ⊢
      generalize (execOp a.eval o).run P w = r at h
      cases r with
      | ok n w' =>
        cases n <;> simp only [Oper.upon] at h ⊢ <;>
          first
            | exact h
            | exact Calls.mono h (fun e w'' he => by cases e <;> exact he)
      | halt x w' => cases x <;> simp only [Oper.upon] at h ⊢ <;> exact h
    · rename_i hw
      simp only [hw] at h
      exact h

/-- In this order each is the only one that may come up. -/
def oneB (md : Region.Mode) (ops : Array Oper) : List Nat → Array Bool → Bool
  | [], _ => true
  | i :: is, listed => decide (Region.ready md ops listed = [i]) && oneB md ops is (listed.setIfInBounds i true)

def listAll : List Nat → Array Bool → Array Bool
  | [], listed => listed
  | i :: is, listed => listAll is (listed.setIfInBounds i true)

theorem wpAny_one {rest : List Oper} {fuel : Nat} : ∀ (is : List Nat) (l : List Oper) (listed : Array Bool) (a : Act) (w : World), is.map (ops[·]?) = l.map some → oneB md ops is listed = true →
    (∀ a w, frontQ P ops Q rest .normal a w → wpAny P md ops Q fuel (listAll is listed) a w) → wpList P ops (frontQ P ops Q rest) l a w → wpAny P md ops Q (is.length + fuel) listed a w
  | [], [], listed, a, w, _, _, hM, h => by
    rw [List.length_nil, Nat.zero_add]
    exact hM a w h
  | [], _ :: _, _, _, _, hl, _, _, _ => by simp at hl
  | _ :: _, [], _, _, _, hl, _, _, _ => by simp at hl
  | i :: is, o :: l, listed, a, w, hl, hB, hM, h => by
    simp only [List.map_cons, List.cons.injEq] at hl
    simp only [oneB, Bool.and_eq_true, decide_eq_true_eq] at hB
    rw [List.length_cons, Nat.add_right_comm]
    refine ⟨fun h1 => (by rw [hB.1] at h1; cases h1), fun j hj => ?_⟩
    rw [hB.1] at hj
    have hji : j = i := by simpa using hj
    subst hji
    have hw : wpOp P ops (frontQ P ops Q rest) j (wpList P ops (frontQ P ops Q rest) l) a w := by unfold wpOp; simp only [hl.1]; exact h
    exact wpOp_mono (fun a' w' h' => wpAny_one is l _ a' w' hl.2 hB.2 hM h') (wpOp_front hw)

theorem gro_self (w : World) : w = gro w ⟨w.drawn, #[]⟩ := by simp [gro]

theorem rest_any {rest : List Oper} {k : Nat} {listed : Array Bool} (hsel : Region.noSelect ops = true) (hl : ∀ j, rest[j]? = ops[k + j]?) (hB : Region.lexFrom md ops rest.length k listed = true) (a : Act) (w : World)
    (h : frontQ P ops Q rest .normal a w) : wpAny P md ops Q rest.length listed a w :=
  wpAny_of_quiet (C := fun w' => ∃ p, w' = gro w p) (Q := fun a' => ∀ w', (∃ p, w' = gro w p) → Q .normal a' w') (fun _ w' hw' h => h w' hw') _ _ _ _ ⟨_, gro_self w⟩ (wpAnyQ_lex hsel rest k listed a hl hB h)

/-- The first n come up in the text's order, number 0 being a move that may come up behind number 1. -/
def frontB (ops : Array Oper) (n : Nat) : Bool :=
  Region.noSelect ops && decide (1 ≤ n) && decide (n ≤ ops.size) && (Region.ready .any ops (Array.replicate ops.size false)).contains 0 && Region.free .any ops (Array.replicate ops.size false) 0 &&
    (match ops[0]? with | some o => (match o.op with | .move _ => true | _ => false) && o.guard.isNone && o.dst.isSome | none => false) &&
    oneB .any ops (List.range' 1 (n - 1)) ((Array.replicate ops.size false).setIfInBounds 0 true) && Region.lexFrom .any ops (ops.size - n) n (listAll (List.range' 1 (n - 1)) ((Array.replicate ops.size false).setIfInBounds 0 true))

/-- The first n come up in the text's order, numbers 0 and 1 in either order. -/
def front2B (ops : Array Oper) (n : Nat) : Bool :=
  Region.noSelect ops && decide (2 ≤ n) && decide (n ≤ ops.size) && decide (Region.ready .any ops (Array.replicate ops.size false) = [0, 1]) &&
    oneB .any ops (1 :: List.range' 2 (n - 2)) ((Array.replicate ops.size false).setIfInBounds 0 true) && oneB .any ops (0 :: List.range' 2 (n - 2)) ((Array.replicate ops.size false).setIfInBounds 1 true) &&
    Region.lexFrom .any ops (ops.size - n) n (listAll (1 :: List.range' 2 (n - 2)) ((Array.replicate ops.size false).setIfInBounds 0 true)) && Region.lexFrom .any ops (ops.size - n) n (listAll (0 :: List.range' 2 (n - 2)) ((Array.replicate ops.size false).setIfInBounds 1 true))

theorem range_ops {l : List Oper} {k n : Nat} (h : k + n ≤ l.length) : (List.range' k n).map (fun i => l.toArray[i]?) = ((l.drop k).take n).map some := by
  apply List.ext_getElem?
  intro j
  simp only [List.getElem?_map, List.getElem?_take, List.getElem?_drop, List.getElem?_toArray]
  by_cases hj : j < n
  · have h1 : k + j < l.length := by omega
    simp [hj, h1]
  · simp [hj]

theorem wp_region_front {id : Nat} {a : Act} {w : World} {o : Oper} {l : List Oper} (n : Nat) (hm : P.follows .mixedOrders = true) (hB : frontB (o :: l).toArray n = true) (hQ : ∀ c k v a w, Q (.panic c) (Act.put a (some k) v) w → Q (.panic c) a w)
    (h : ∀ K : Exit → Act → World → Prop, Hid (∀ a w, wpQuiet P (o :: l).toArray (fun w' => ∃ p, w' = gro w p) (fun a' => ∀ w', (∃ p, w' = gro w p) → Q .normal a' w') ((o :: l).drop n) a → K .normal a w) → wpList P (o :: l).toArray K ((o :: l).take n) a w.drew) : (Code.region id (o :: l).toArray true).wp P Q a w := by
  replace h := h (frontQ P (o :: l).toArray Q ((o :: l).drop n)) (Lib.hid fun _ _ h => h)
  change wpList P (o :: l).toArray (frontQ P (o :: l).toArray Q ((o :: l).drop n)) ((o :: l).take n) a { w with drawn := w.drawn + 1 } at h
  simp only [frontB, Bool.and_eq_true, decide_eq_true_eq] at hB
  obtain ⟨⟨⟨⟨⟨⟨⟨hsel, h1n⟩, hn⟩, hr⟩, hf⟩, ho⟩, h1⟩, h2⟩ := hB
  have hn' : n ≤ l.length + 1 := by simpa using hn
  obtain ⟨m, rfl⟩ : ∃ m, n = m + 1 := ⟨n - 1, by omega⟩
  refine wp_region_any hm ?_
  have h0 : (o :: l).toArray[0]? = some o := by simp
  rw [h0] at ho
  simp only [Bool.and_eq_true, Option.isNone_iff_eq_none, Option.isSome_iff_exists] at ho
  obtain ⟨⟨hom, hog⟩, d, hd⟩ := ho
  obtain ⟨x, hx⟩ : ∃ x, o.op = .move x := by
    split at hom
    · rename_i x he; exact ⟨x, he⟩
    · cases hom
  have hwant : ∀ t, Region.wanted o t = true := fun t => by simp [Region.wanted, hog]
  have hrun : ∀ w, (execOp a.eval o).run P w = .ok (.value (a.eval x)) w := fun w => by simp [execOp, hx]
  rw [List.take_succ_cons] at h
  have h' : o.wp P a { w with drawn := w.drawn + 1 } (wpList P (o :: l).toArray (frontQ P (o :: l).toArray Q ((o :: l).drop (m + 1))) (l.take m)) (frontQ P (o :: l).toArray Q ((o :: l).drop (m + 1))) ∨ (o.asks P a { w with drawn := w.drawn + 1 } ∧ LetsOut (frontQ P (o :: l).toArray Q ((o :: l).drop (m + 1)))) := by
    have := h
    simp only [wpList, hwant, if_true] at this
    exact this
  have hK : wpList P (o :: l).toArray (frontQ P (o :: l).toArray Q ((o :: l).drop (m + 1))) (l.take m) (a.put o.dst (a.eval x)) { w with drawn := w.drawn + 1 } := by
    rcases h' with h' | ⟨⟨h', _⟩, _⟩
    · simpa [Oper.wp, hrun, Oper.upon] using h'
    · exfalso
      simp [execOp, hx] at h'
      have h'' : noRoomEvent ∈ (#[] : Array Event) := h'
      simp at h''
  have hsz : (o :: l).toArray.size = l.length + 1 := by simp
  rw [hsz]
  refine wpAny_take h0 hsel hf hr (fun c a w => by rw [hd]; exact hQ c _ _ a w) (.inl ⟨hwant _, hrun⟩) ?_
  have := wpAny_one (md := .any) (Q := Q) (P := P) (fuel := l.length - m) (List.range' 1 m) (l.take m) ((Array.replicate (l.length + 1) false).setIfInBounds 0 true) (a.put o.dst (a.eval x)) { w with drawn := w.drawn + 1 }
    (by have := range_ops (l := o :: l) (k := 1) (n := m) (by simp; omega); simpa using this) (by rw [hsz] at h1; simpa using h1)
    (fun a w hR => by
      have := rest_any (md := .any) (k := m + 1) (listed := listAll (List.range' 1 m) ((Array.replicate (l.length + 1) false).setIfInBounds 0 true)) hsel (fun j => by simp [List.getElem?_drop, Nat.add_right_comm m 1 j]) (by rw [hsz] at h2; simpa using h2) a w hR
      simpa using this) hK
  rw [List.length_range', show m + (l.length - m) = l.length by omega] at this
  exact this

theorem wp_region_front2 {id : Nat} {a : Act} {w : World} {o o1 : Oper} {l : List Oper} (n : Nat) (hm : P.follows .mixedOrders = true) (hB : front2B (o :: o1 :: l).toArray (n + 2) = true)
    (h : ∀ K : Exit → Act → World → Prop, Hid (∀ a w, wpQuiet P (o :: o1 :: l).toArray (fun w' => ∃ p, w' = gro w p) (fun a' => ∀ w', (∃ p, w' = gro w p) → Q .normal a' w') (l.drop n) a → K .normal a w) → wpList P (o :: o1 :: l).toArray K (o :: o1 :: l.take n) a w.drew ∧ wpList P (o :: o1 :: l).toArray K (o1 :: o :: l.take n) a w.drew) : (Code.region id (o :: o1 :: l).toArray true).wp P Q a w := by
  replace h := h (frontQ P (o :: o1 :: l).toArray Q (l.drop n)) (Lib.hid fun _ _ h => h)
  obtain ⟨h, h'⟩ := h
  change wpList P (o :: o1 :: l).toArray (frontQ P (o :: o1 :: l).toArray Q (l.drop n)) (o :: o1 :: l.take n) a { w with drawn := w.drawn + 1 } at h
  change wpList P (o :: o1 :: l).toArray (frontQ P (o :: o1 :: l).toArray Q (l.drop n)) (o1 :: o :: l.take n) a { w with drawn := w.drawn + 1 } at h'
  simp only [front2B, Bool.and_eq_true, decide_eq_true_eq] at hB
  obtain ⟨⟨⟨⟨⟨⟨⟨hsel, _⟩, hn⟩, hr⟩, h1⟩, h1'⟩, h2⟩, h2'⟩ := hB
  have hn' : n ≤ l.length := by simpa using hn
  refine wp_region_any hm ?_
  have hsz : (o :: o1 :: l).toArray.size = l.length + 1 + 1 := by simp
  rw [hsz] at hr h1 h1' h2 h2' ⊢
  have e0 : (o :: o1 :: l).toArray[0]? = some o := by simp
  have e1 : (o :: o1 :: l).toArray[1]? = some o1 := by simp
  have hops : (List.range' 2 n).map (fun i => (o :: o1 :: l).toArray[i]?) = (l.take n).map some := by
    have := range_ops (l := o :: o1 :: l) (k := 2) (n := n) (by simp; omega)
    simpa using this
  have hrest : ∀ j, (l.drop n)[j]? = (o :: o1 :: l).toArray[n + 2 + j]? := fun j => by simp [List.getElem?_drop, show n + 2 + j = n + j + 1 + 1 by omega]
  refine ⟨fun h0 => (by rw [hr] at h0; cases h0), fun i hi => ?_⟩
  rw [hr] at hi
  simp only [List.mem_cons, List.not_mem_nil, or_false] at hi
  rcases hi with rfl | rfl
  · have hw : wpOp P (o :: o1 :: l).toArray (frontQ P (o :: o1 :: l).toArray Q (l.drop n)) 0 (wpList P (o :: o1 :: l).toArray (frontQ P (o :: o1 :: l).toArray Q (l.drop n)) (o1 :: l.take n)) a { w with drawn := w.drawn + 1 } := by
      unfold wpOp; simp only [e0]; exact h
    refine wpOp_mono (fun a' w' hh => ?_) (wpOp_front hw)
    have := wpAny_one (md := .any) (Q := Q) (P := P) (fuel := l.length - n) (1 :: List.range' 2 n) (o1 :: l.take n) _ a' w' (by simp only [List.map_cons, e1, hops]) (by simpa using h1)
      (fun a w hR => by
        have := rest_any (md := .any) (k := n + 2) hsel hrest (by simpa using h2) a w hR
        simpa using this) hh
    rw [List.length_cons, List.length_range', show n + 1 + (l.length - n) = l.length + 1 by omega] at this
    exact this
  · have hw : wpOp P (o :: o1 :: l).toArray (frontQ P (o :: o1 :: l).toArray Q (l.drop n)) 1 (wpList P (o :: o1 :: l).toArray (frontQ P (o :: o1 :: l).toArray Q (l.drop n)) (o :: l.take n)) a { w with drawn := w.drawn + 1 } := by
      unfold wpOp; simp only [e1]; exact h'
    refine wpOp_mono (fun a' w' hh => ?_) (wpOp_front hw)
    have := wpAny_one (md := .any) (Q := Q) (P := P) (fuel := l.length - n) (0 :: List.range' 2 n) (o :: l.take n) _ a' w' (by simp only [List.map_cons, e0, hops]) (by simpa using h1')
      (fun a w hR => by
        have := rest_any (md := .any) (k := n + 2) hsel hrest (by simpa using h2') a w hR
        simpa using this) hh
    rw [List.length_cons, List.length_range', show n + 1 + (l.length - n) = l.length + 1 by omega] at this
    exact this
end
end Go.Proofs.YtcomfhigbjkoeaaGreatDoor
