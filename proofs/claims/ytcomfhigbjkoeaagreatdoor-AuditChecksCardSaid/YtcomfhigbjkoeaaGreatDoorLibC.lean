/-
  No statement is proved here: words for memory, third part: a block whose cells are known (a boxed struct); small lists. Conditions: none.
-/
import Derived.Test.YtcomfhigbjkoeaaGreatDoorLibB
namespace Go.Proofs.YtcomfhigbjkoeaaGreatDoor
open Go.RowKit

/-- Block g holds the cells cs, and they may be written. -/
structure Cells (W : World) (g : Nat) (cs : List Value) : Prop where
  c : ∀ j u, cs[j]? = some u → W.cell? ⟨g, j, none⟩ = some u
  f : ∀ j, W.frozen? ⟨g, j, none⟩ = false
  lt : g < W.heap.size

theorem Cells.new (w : World) (cs : List Value) (t : TypeId) : Cells (w.alloc (.cells cs.toArray t)) w.heap.size cs :=
  ⟨fun j u hu => by rw [World.cell?_alloc_new]; simpa using hu, fun j => by simp, by simp⟩

theorem Cells.later {W W' : World} {g : Nat} {cs : List Value} (h : Cells W g cs) (hb : Below W.heap.size W W') : Cells W' g cs :=
  ⟨fun j u hu => cell_later hb (h.c j u hu), fun j => (hb.frozen (p := ⟨g, j, none⟩) h.lt).trans (h.f j), Nat.lt_of_lt_of_le h.lt hb.size⟩
theorem Cells.alloc {W : World} {g : Nat} {cs : List Value} (h : Cells W g cs) (o : Obj) : Cells (W.alloc o) g cs := h.later (ba _ _)
theorem Cells.drew {W : World} {g : Nat} {cs : List Value} (h : Cells W g cs) : Cells W.drew g cs := ⟨h.c, h.f, h.lt⟩
theorem Cells.drewN {W : World} {g : Nat} {cs : List Value} (h : Cells W g cs) (n : Nat) : Cells (W.drewN n) g cs := ⟨h.c, h.f, h.lt⟩
theorem Cells.grown {W W' : World} {g : Nat} {cs : List Value} {row : Option Nat} (h : Cells W g cs) (hg : W.grownBy W' row) (hne : row ≠ some g) : Cells W' g cs :=
  ⟨fun j u hu => cell_grown hg (h.c j u hu) hne, fun j => (World.frozen?_of_block (hg.block g h.lt (Ne.symm hne))).trans (h.f j), Nat.lt_of_lt_of_le h.lt hg.size⟩
theorem Cells.put2 {W : World} {g : Nat} {u v : Value} (h : Cells W g [u, v]) (a b : Value) : Cells ((W.setCell ⟨g, 0, none⟩ a).setCell ⟨g, 1, none⟩ b) g [a, b] ∧ W.grownBy ((W.setCell ⟨g, 0, none⟩ a).setCell ⟨g, 1, none⟩ b) (some g) := by
  obtain ⟨p0, p1, hg⟩ := Go.Proofs.YtcomfhigbjkoeaaGreatDoor.put2 (a := a) (b := b) (h.c 0 _ rfl) (h.c 1 _ rfl)
  refine ⟨⟨fun j u hu => ?_, fun j => by simp [h.f j], by simp [h.lt]⟩, hg⟩
  match j, hu with
  | 0, hu => simp at hu; subst hu; exact p0
  | 1, hu => simp at hu; subst hu; exact p1
theorem Cells.put {W : World} {g : Nat} {ds : List Value} (h : Cells W g ds) (cs : List Value) (hl : cs.length = ds.length) : Cells (putAt W g 0 cs) g cs ∧ W.grownBy (putAt W g 0 cs) (some g) := by
  have hg := grownBy_putAt cs W g 0
  have ha := put_at cs (w := W) (g := g) (off := 0) fun j hj => ⟨_, by rw [Nat.zero_add]; exact h.c j _ (List.getElem?_eq_getElem (by omega))⟩
  refine ⟨⟨fun j u hu => by have := ha j u hu; rwa [Nat.zero_add] at this, fun j => ?_, Nat.lt_of_lt_of_le h.lt hg.size⟩, hg⟩
  have : ∀ (us : List Value) (w : World) (off : Nat), (putAt w g off us).frozen? ⟨g, j, none⟩ = w.frozen? ⟨g, j, none⟩ := by
    intro us
    induction us with
    | nil => exact fun _ _ => rfl
    | cons u us ih => intro w off; rw [putAt, ih, World.frozen?_setCell]
  rw [this]
  exact h.f j

theorem bkeep {B : Nat} {a w w' : World} {row : Option Nat} (h : Below B a w) (hg : w.grownBy w' row) (hB : B ≤ w.heap.size) (hr : ∀ k, row = some k → B ≤ k) : Below B a w' := h.grown hg hB hr

/-- The places of a number in a list, from i on. -/
def places (t : Int) : List Int → Nat → List Int
  | [], _ => []
  | x :: xs, i => if x == t then (i : Int) :: places t xs (i + 1) else places t xs (i + 1)
theorem places_append (t : Int) : ∀ (a b : List Int) (i : Nat), places t (a ++ b) i = places t a i ++ places t b (i + a.length)
  | [], b, i => rfl
  | x :: a, b, i => by
    simp only [List.cons_append, places, List.length_cons]
    rw [places_append t a b (i + 1), show i + 1 + a.length = i + (a.length + 1) from by omega]
    split <;> rfl
theorem places_snoc (t : Int) (xs : List Int) (k : Nat) (hk : k < xs.length) : places t (xs.take (k + 1)) 0 = places t (xs.take k) 0 ++ if xs[k] == t then [(k : Int)] else [] := by
  rw [List.take_succ_eq_append_getElem hk, places_append]
  simp only [places, List.length_take, Nat.zero_add, Nat.min_eq_left (Nat.le_of_lt hk)]
theorem places_len (t : Int) : ∀ (xs : List Int) (i : Nat), (places t xs i).length ≤ xs.length
  | [], _ => Nat.le_refl _
  | x :: xs, i => by
    simp only [places]
    have := places_len t xs (i + 1)
    split <;> simp <;> omega
/-- One new cell reads as a list of one. -/
theorem sl_one (w : World) (g : Nat) (x : Int) (t : TypeId) (hg : g = w.heap.size) (hx : Bd x) : Sl intR (w.alloc (.cells #[.int .i64 x] t)) (.slice (some ⟨g, 0, none⟩) 1 1) [x] := by
  subst hg
  refine ⟨_, 1, rfl, Nat.le_refl _, by omega, .inr ⟨w.heap.size, 0, rfl, by simp, fun i y hi => ?_⟩⟩
  match i, hi with
  | 0, hi =>
    simp at hi; subst hi
    exact ⟨[.int .i64 x], ⟨rfl, hx⟩, fun j u hu => by
      match j, hu with
      | 0, hu => simp at hu; subst hu; simp [intR]⟩

/-- A slice literal. -/
theorem Own.lit {α : Type} {R : Rep α} {e B g n : Nat} {w : World} {cells : List Value} {xs : List α} (hg : g = w.heap.size) (hB : B ≤ w.heap.size) (hm : R.many (w.alloc (.cells cells.toArray e)) cells xs) (hn : n = xs.length) (hs : n ≤ 1000000) :
    Own R e B (w.alloc (.cells cells.toArray e)) (.slice (some ⟨g, 0, none⟩) n n) xs := by
  subst hg hn
  exact ⟨cells, World.ownsRow_lit w cells.toArray _ hB (by simp only [maxLen]; omega) (by simpa using R.many_len hm), hm⟩
theorem many_cons {α : Type} {R : Rep α} {w : World} {x : α} {xs : List α} {cs rest : List Value} (h : R.is w cs x) (h' : R.many w rest xs) : R.many w (cs ++ rest) (x :: xs) := ⟨cs, rest, rfl, h, h'⟩
end Go.Proofs.YtcomfhigbjkoeaaGreatDoor
