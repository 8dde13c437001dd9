/-
  No statement is proved here: words for memory: a map from integers to integers that the call itself has made. Conditions: none.
-/
import Derived.Test.YtgmjfmajdnoogaaLibC
import Derived.Maps.OwnOps
import Derived.Maps.Views
import Derived.Deep.LoopGhost
import Derived.StillTailTactics
namespace Go.Proofs.Ytgmjfmajdnoogaa
open Go.RowKit Go.Maps

def upd (f : Int → Int) (a b : Int) : Int → Int := fun t => if t = a then b else f t

/-- Block b is a map whose look-ups give f. -/
def MapI (P : Program) (k e : TypeId) (w : World) (b n : Nat) (f : Int → Int) : Prop :=
  ∃ D : DataW Unit, IsMap D ∧ w.ownsMap P k (plainElem P e) b n D ∧ ∀ x, (Lit.int .i64 x).wf = true → D.atKey (.int .i64 x) (.lit (.int .i64 0)) = .lit (.int .i64 (f x))

theorem wf_bd {x : Int} (h : Bd x) : (Lit.int .i64 x).wf = true := WalkArith.wf_i64 h

theorem MapI.new (P : Program) (k e : TypeId) (w : World) : MapI P k e (w.alloc (.map #[] 0)) w.heap.size 0 (fun _ => 0) :=
  ⟨.map [], ⟨[], rfl⟩, World.ownsMap_made _ _ _ _, fun _ _ => rfl⟩
theorem MapI.kept {P : Program} {k e : TypeId} {w w' : World} {b n : Nat} {f : Int → Int} {row : Option Nat} (h : MapI P k e w b n f) (hg : w.grownBy w' row) (hne : row ≠ some b) : MapI P k e w' b n f := by
  obtain ⟨D, h1, h2, h3⟩ := h
  exact ⟨D, h1, h2.kept hg (Ne.symm hne), h3⟩
theorem MapI.lt {P : Program} {k e : TypeId} {w : World} {b n : Nat} {f : Int → Int} (h : MapI P k e w b n f) : b < w.heap.size := by
  obtain ⟨D, h1, h2, h3⟩ := h
  exact h2.lt
theorem MapI.up {P : Program} {k e : TypeId} {w w' : World} {b n : Nat} {f : Int → Int} (h : MapI P k e w b n f) (hb : Below w.heap.size w w') : MapI P k e w' b n f :=
  h.kept (row := none) ⟨hb.os, hb.tape, hb.output, hb.size, fun i hi _ => hb.block i hi⟩ (by simp)

theorem wpList_lookup_mapI {P : Program} (w : World) {ops : Array Oper} {rest : List Oper} {o : Oper} {a : Act} {Q : Exit → Act → World → Prop}
    (hg : o.guard = none) (m x : Operand) (t : TypeId) (hop : o.op = Op.lookup t m x false) (k e : TypeId) (K : Keyed P k) (hk : P.underlying k = some (.int .i64)) (ht : P.underlying t = some (.map k e)) (he : P.underlying e = some (.int .i64))
    (hz : (zeroValue e).run P w = .ok (.int .i64 0) w) (b n : Nat) (f : Int → Int) (hm : a.eval m = .map (some b)) (hown : MapI P k e w b n f) (key : Int) (hx : a.eval x = .int .i64 key) (hb : Bd key)
    (hK : wpList P ops Q rest (a.put o.dst (.int .i64 (f key))) w) : wpList P ops Q (o :: rest) a w := by
  obtain ⟨D, h1, h2, h3⟩ := hown
  refine wpList_lookup_own_int w hg m x t hop k e .i64 K ht he hz b n D hm h2 _ _ hx (keyOf_int_mk hk (wf_bd hb)) fun c hc _ => ?_
  rw [h3 key (wf_bd hb)] at hc
  injection hc with hc
  injection hc with _ hc
  subst hc
  exact hK

theorem wpList_update_mapI {P : Program} (w : World) {ops : Array Oper} {rest : List Oper} {o : Oper} {a : Act} {Q : Exit → Act → World → Prop}
    (hg : o.guard = none) (m x v : Operand) (t : TypeId) (hop : o.op = Op.mapUpdate t m x v) (k e : TypeId) (K : Keyed P k) (hk : P.underlying k = some (.int .i64)) (ht : P.underlying t = some (.map k e)) (he : P.underlying e = some (.int .i64))
    (b n : Nat) (f : Int → Int) (hm : a.eval m = .map (some b)) (hown : MapI P k e w b n f) (hn : n < 1000000) (key val : Int) (hx : a.eval x = .int .i64 key) (hv : a.eval v = .int .i64 val) (hb : Bd key) (hb' : Bd val)
    (hK : ∀ w', MapI P k e w' b (n + 1) (upd f key val) → w.grownBy w' (some b) → wpList P ops Q rest (a.put o.dst undef) w') : wpList P ops Q (o :: rest) a w := by
  obtain ⟨D, h1, h2, h3⟩ := hown
  refine wpList_mapUpdate_own w hg m x v t hop k e K ht _ b n D hm h2 (by unfold maxLen; omega) _ _ _ hx hv (keyOf_int_mk hk (wf_bd hb)) _ [] (plainElem_int he (wf_bd hb')) fun w' h4 h5 => hK w' ⟨_, h1.put _ _, h4, fun y hy => ?_⟩ h5
  by_cases e : y = key
  · subst e
    simp only [upd, if_true]
    exact atKey_put_same h1 (by first | trivial | (unfold WideAt.IsKeyLit; trivial) | simp [WideAt.IsKeyLit]) _ _
  · simp only [upd, if_neg e]
    rw [atKey_put_other (by intro h; injection h with _ h; exact e h)]
    exact h3 y hy
end Go.Proofs.Ytgmjfmajdnoogaa
