/-
  No statement is proved here: words for memory, second part: a store of one element into a slice of the call's own, clear. Conditions: none.
-/
import Derived.Test.YtcomfhigbjkoeaaGreatDoorLib
namespace Go.Proofs.YtcomfhigbjkoeaaGreatDoor
open Go.RowKit

def putAt : World → Nat → Nat → List Value → World
  | w, _, _, [] => w
  | w, g, off, u :: us => putAt (w.setCell ⟨g, off, none⟩ u) g (off + 1) us

def setAll : List Value → Nat → List Value → List Value
  | l, _, [] => l
  | l, off, u :: us => setAll (l.set off u) (off + 1) us

theorem setAll_right : ∀ (us : List Value) (a b : List Value) (off : Nat), setAll (a ++ b) (a.length + off) us = a ++ setAll b off us
  | [], _, _, _ => rfl
  | u :: us, a, b, off => by
    simp only [setAll]
    rw [List.set_append_right _ _ (by omega), show a.length + off - a.length = off from by omega, show a.length + off + 1 = a.length + (off + 1) from by omega]
    exact setAll_right us a _ _

theorem setAll_whole : ∀ (us pre old rest : List Value), us.length = old.length → setAll (pre ++ old ++ rest) pre.length us = pre ++ us ++ rest
  | [], pre, old, rest, h => by
    have : old = [] := List.eq_nil_of_length_eq_zero (by simpa using h.symm)
    subst this
    rfl
  | u :: us, pre, o :: old, rest, h => by
    simp only [setAll]
    have h1 : (pre ++ o :: old ++ rest).set pre.length u = (pre ++ [u]) ++ old ++ rest := by
      rw [List.append_assoc, List.set_append_right _ _ (Nat.le_refl _), Nat.sub_self]
      simp
    rw [h1]
    have h2 := setAll_whole us (pre ++ [u]) old rest (by simpa using h)
    rw [List.length_append, List.length_singleton] at h2
    rw [h2]
    simp
  | _ :: _, _, [], _, h => by simp at h

theorem Rep.many_set {α : Type} {R : Rep α} {w : World} {x : α} {cs : List Value} (hx : R.is w cs x) : ∀ {ys : List α} {k : Nat} {cells : List Value}, R.many w cells ys → k < ys.length → R.many w (setAll cells (k * R.size) cs) (ys.set k x)
  | [], k, _, _, hk => by simp at hk
  | y :: ys, 0, _, ⟨ds, rest, e, h1, h2⟩, _ => by
    subst e
    have h3 := setAll_whole cs [] ds rest (by rw [R.len hx, R.len h1])
    simp only [List.nil_append, List.length_nil] at h3
    rw [Nat.zero_mul, h3]
    exact ⟨cs, rest, rfl, hx, h2⟩
  | y :: ys, k + 1, _, ⟨ds, rest, e, h1, h2⟩, hk => by
    subst e
    have h3 := Rep.many_set hx h2 (k := k) (by simpa using hk)
    have e1 : (k + 1) * R.size = ds.length + k * R.size := by rw [R.len h1, Nat.add_mul]; omega
    rw [e1, setAll_right]
    exact ⟨ds, _, rfl, h1, h3⟩

theorem grownBy_trans {a b c : World} {row : Option Nat} (h : a.grownBy b row) (k : b.grownBy c row) : a.grownBy c row :=
  ⟨k.os.trans h.os, k.tape.trans h.tape, k.output.trans h.output, Nat.le_trans h.size k.size, fun i hi hne => (k.block i (Nat.lt_of_lt_of_le hi h.size) hne).trans (h.block i hi hne)⟩

theorem owns_putAt {base e size g cap n : Nat} : ∀ (us : List Value) {w : World} {xs : List Value} (off : Nat), w.ownsRow base e size (.slice (some ⟨g, 0, none⟩) n cap) n xs →
    (putAt w g off us).ownsRow base e size (.slice (some ⟨g, 0, none⟩) n cap) n (setAll xs off us) ∧ w.grownBy (putAt w g off us) (some g)
  | [], w, _, _, h => ⟨h, World.grownBy.refl w _⟩
  | u :: us, w, _, off, h => by
    obtain ⟨h1, h2⟩ := h.stored off u
    obtain ⟨h3, h4⟩ := owns_putAt us (off + 1) h1
    exact ⟨h3, grownBy_trans h2 h4⟩

/-- One element of a slice of the call's own is written. -/
theorem Own.put {α : Type} {R : Rep α} {e B g cap n k : Nat} {w : World} {ys : List α} {x : α} {cs : List Value} (h : Own R e B w (.slice (some ⟨g, 0, none⟩) n cap) ys) (hk : k < ys.length) (hx : R.is w cs x)
    (keep : ∀ w', w.grownBy w' (some g) → ∀ cs y, R.is w cs y → R.is w' cs y) :
    Own R e B (putAt w g (k * R.size) cs) (.slice (some ⟨g, 0, none⟩) n cap) (ys.set k x) ∧ w.grownBy (putAt w g (k * R.size) cs) (some g) := by
  obtain ⟨cells, ho, hm⟩ := h
  have hn : n = ys.length := by
    rcases ho.2 with ⟨h', _⟩ | ⟨g', cap', cur, h', _⟩
    · cases h'
    · injection h'
  subst hn
  obtain ⟨h1, h2⟩ := owns_putAt cs (k * R.size) ho
  refine ⟨⟨_, by rw [List.length_set]; exact h1, ?_⟩, h2⟩
  have h3 := R.many_set hx hm hk
  have keepm : ∀ {l : List α} {cl : List Value}, R.many w cl l → R.many (putAt w g (k * R.size) cs) cl l := by
    intro l
    induction l with
    | nil => exact fun h => h
    | cons y l ih => exact fun ⟨cs, rest, e, h1, h4⟩ => ⟨cs, rest, e, keep _ h2 cs y h1, ih h4⟩
  exact keepm h3

/-- A cell of a slice of the call's own: it is there, and not frozen. -/
theorem Own.cell_ {α : Type} {R : Rep α} {e B g cap n k : Nat} {w : World} {ys : List α} (h : Own R e B w (.slice (some ⟨g, 0, none⟩) n cap) ys) (hk : k < ys.length) :
    ∃ cs, R.is w cs ys[k] ∧ (∀ j u, cs[j]? = some u → w.cell? ⟨g, k * R.size + j, none⟩ = some u) ∧ ∀ j, w.frozen? ⟨g, j, none⟩ = false := by
  obtain ⟨b, off, cs, he, _, h1, h2⟩ := h.sl.at_ hk
  injection he with he
  injection he with e1 e2
  subst e1 e2
  obtain ⟨cells, ho, hm⟩ := h
  have hn : n = ys.length := by
    rcases ho.2 with ⟨h', _⟩ | ⟨g', cap', cur, h', _⟩
    · cases h'
    · injection h'
  subst hn
  exact ⟨cs, h1, fun j u hu => by have := h2 j u hu; rwa [Nat.zero_add] at this, fun j => ho.frozenAt j⟩

theorem Own.block {α : Type} {R : Rep α} {e B g cap n : Nat} {w : World} {ys : List α} (h : Own R e B w (.slice (some ⟨g, 0, none⟩) n cap) ys) : B ≤ g ∧ g < w.heap.size ∧ n = ys.length := by
  have h1 := h.lt g rfl
  obtain ⟨cells, ho, hm⟩ := h
  refine ⟨h1.1, h1.2, ?_⟩
  rcases ho.2 with ⟨h', _⟩ | ⟨g', cap', cur, h', _⟩
  · cases h'
  · injection h'

theorem Rep.many_take {α : Type} {R : Rep α} {w : World} : ∀ {ys : List α} {cells : List Value} (i : Nat), R.many w cells ys → i ≤ ys.length → R.many w (cells.take (i * R.size)) (ys.take i)
  | _, _, 0, _, _ => by simp only [Nat.zero_mul, List.take_zero]; rfl
  | [], _, i + 1, _, h => by simp at h
  | y :: ys, _, i + 1, ⟨ds, rest, e, h1, h2⟩, h => by
    subst e
    have e1 : (i + 1) * R.size = ds.length + i * R.size := by rw [R.len h1, Nat.add_mul]; omega
    rw [e1, List.take_length_add_append, List.take_succ_cons]
    exact ⟨ds, _, rfl, h1, Rep.many_take i h2 (by simpa using h)⟩

/-- 's[:i]' of a slice of the call's own. -/
theorem Own.cut {α : Type} {R : Rep α} {e B g cap n i : Nat} {w : World} {ys : List α} (h : Own R e B w (.slice (some ⟨g, 0, none⟩) n cap) ys) (hi : i ≤ ys.length) : Own R e B w (.slice (some ⟨g, 0, none⟩) i cap) (ys.take i) := by
  obtain ⟨_, _, hn⟩ := h.block
  subst hn
  obtain ⟨cells, ho, hm⟩ := h
  refine ⟨cells.take (i * R.size), ?_, R.many_take i hm hi⟩
  have hl : (ys.take i).length = i := by rw [List.length_take]; omega
  rw [hl]
  have hle : i * R.size ≤ ys.length * R.size := Nat.mul_le_mul_right _ hi
  refine ⟨by rw [List.length_take, ho.1]; omega, ?_⟩
  rcases ho.2 with ⟨h', _⟩ | ⟨g', cap', cur, h', hB, hg, hnc, hcm, hcs, htake⟩
  · cases h'
  · injection h' with e1 e2 e3
    injection e1 with e1
    injection e1 with e1 _
    subst e1 e3
    refine .inr ⟨g, cap, cur, rfl, hB, hg, by omega, hcm, hcs, ?_⟩
    rw [← htake, List.take_take, Nat.min_eq_left hle]

/-- A world in which one row of cells of a block was written. -/
theorem Own.setRow_cut {α : Type} {R : Rep α} {e B g cap n i : Nat} {w : World} {ys : List α} (h : Own R e B w (.slice (some ⟨g, 0, none⟩) n cap) ys) (hi : i ≤ ys.length) (zs : List Value) (hz : zs.length = (n - i) * R.size) {P : Program}
    (h1 : ∀ u ∈ zs, u.oneCell' = true) (keep : ∀ w', w.grownBy w' (some g) → ∀ cs y, R.is w cs y → R.is w' cs y) :
    ∃ w', (storeCells ⟨g, i * R.size, none⟩ zs).run P w = .ok () w' ∧ Own R e B w' (.slice (some ⟨g, 0, none⟩) i cap) (ys.take i) ∧ w.grownBy w' (some g) := by
  obtain ⟨cells, ho, hm⟩ := h.cut hi
  have hl : (ys.take i).length = i := by rw [List.length_take]; omega
  rw [hl] at ho
  obtain ⟨_, _, hn⟩ := h.block
  obtain ⟨hs, h2⟩ := ho
  have hnc' : n ≤ cap := by
    obtain ⟨_, ho', _⟩ := h
    subst hn
    rcases ho'.2 with ⟨h', _⟩ | ⟨g', cap', cur, h', _, _, hnc, _⟩
    · cases h'
    · injection h' with _ _ e3; subst e3; exact hnc
  rcases h2 with ⟨h', _⟩ | ⟨g', cap', cur, h', hB, hg, hnc, hcm, hcs, htake⟩
  · cases h'
  · injection h' with e1 e2 e3
    injection e1 with e1
    injection e1 with e1 _
    subst e1 e3
    have hfit : i * R.size + zs.length ≤ cur.size := by
      rw [hz, hcs, ← Nat.add_mul]
      exact Nat.mul_le_mul_right _ (by omega)
    have hst := run_storeCells_at P g (i * R.size) e zs 0 cur w hg (by simpa using hfit) h1
    simp only [Nat.add_zero] at hst
    have hgr : w.grownBy (w.setRow g (cur.toList.take (i * R.size) ++ zs ++ cur.toList.drop (i * R.size + zs.length)).toArray) (some g) :=
      ⟨rfl, rfl, rfl, by simp, fun k _ hk => setRow_other w g k _ (fun e => hk (by rw [e]))⟩
    have keepm : ∀ {l : List α} {cl : List Value}, R.many w cl l → R.many (w.setRow g (cur.toList.take (i * R.size) ++ zs ++ cur.toList.drop (i * R.size + zs.length)).toArray) cl l := by
      intro l
      induction l with
      | nil => exact fun h => h
      | cons y l ih => exact fun ⟨cs, rest, e, h1, h4⟩ => ⟨cs, rest, e, keep _ hgr cs y h1, ih h4⟩
    refine ⟨_, hst, ⟨cells, ⟨by rw [hl]; exact hs, .inr ⟨g, cap, _, by rw [hl], hB, setRow_heap w g cur _ e _ hg, by omega, hcm, ?_, ?_⟩⟩, keepm hm⟩, hgr⟩
    · simp only [List.size_toArray, List.length_append, List.length_take, List.length_drop, Array.length_toList]
      omega
    · rw [hl]
      have hle : i * R.size ≤ cur.toList.length := by rw [Array.length_toList]; omega
      rw [← htake, List.append_assoc, List.take_append_of_le_length (by rw [List.length_take]; omega), List.take_take, Nat.min_self]

/-- 'clear(s[i:])' of a slice of the call's own, i below its length. -/
theorem run_clear_own {α : Type} {P : Program} {R : Rep α} {t e ty : TypeId} {z : Value} {B g cap n i : Nat} {w : World} {ys : List α} (ht : P.underlying t = some (.slice e)) (hv : ∀ w, (zeroValue e).run P w = .ok z w) (hzs : z.cells.size = R.size) (hone : ∀ u ∈ z.cells.toList, u.oneCell' = true)
    (h : Own R e B w (.slice (some ⟨g, 0, none⟩) n cap) ys) (hi : i < ys.length) (keep : ∀ w', w.grownBy w' (some g) → ∀ cs y, R.is w cs y → R.is w' cs y) {o m c : Nat} (ho : o = i * R.size) (hm : m = n - i) :
    ∃ w', (Builtin.clear_ #[t] ty #[.slice (some ⟨g, o, none⟩) m c]).run P w = .ok (.tuple #[]) w' ∧ Own R e B w' (.slice (some ⟨g, 0, none⟩) i cap) (ys.take i) ∧ w.grownBy w' (some g) := by
  subst ho hm
  obtain ⟨_, _, hn⟩ := h.block
  have hlen : (Builtin.zeroCells z.cells (n - i)).toList.length = (n - i) * R.size := by simp [Builtin.zeroCells, hzs]
  have h1 : ∀ u ∈ (Builtin.zeroCells z.cells (n - i)).toList, u.oneCell' = true := by
    intro u hu
    simp only [Builtin.zeroCells, Array.toList_map, List.mem_map, Array.toList_range, List.mem_range] at hu
    obtain ⟨k, hk, rfl⟩ := hu
    have hpos : 0 < z.cells.size := Nat.pos_of_ne_zero fun h0 => by rw [h0] at hk; simp at hk
    have hlt := Nat.mod_lt k hpos
    rw [getElem!_pos z.cells _ hlt]
    exact hone _ (by simp)
  obtain ⟨w', hst, h2, h3⟩ := h.setRow_cut (Nat.le_of_lt hi) _ hlen (P := P) h1 keep
  refine ⟨w', ?_, h2, h3⟩
  obtain ⟨m, hm⟩ : ∃ m, n - i = m + 1 := ⟨n - i - 1, by omega⟩
  rw [hm] at hst ⊢
  simp [Builtin.clear_, run_underlying ht, hv, hst]

/-- A contract's result, the slice written out. -/
theorem ownf {α : Type} {R : Rep α} {t : TypeId} {B : Nat} {w' : World} {xs : List α} {e : Ending} {Q : Prop} (h : ∃ v', e = .returned v' ∧ Own R t B w' v' xs ∧ Q) :
    ∃ A c, e = .returned (.slice A xs.length c) ∧ Own R t B w' (.slice A xs.length c) xs ∧ Q := by
  obtain ⟨v, he, ho, q⟩ := h
  obtain ⟨A, c, rfl, _, _, ho'⟩ := ho.form
  exact ⟨A, c, he, ho', q⟩

theorem at_world {C : World → Prop} {w : World} (F : World → Prop) (hF : F w) (h : ∀ W, F W → C W) : C w := h w hF
theorem at_call {P : Program} {f : FuncId} {args : Array Value} {R : Ending → World → Prop} {w : World} (F : World → Prop) (hF : F w) (h : ∀ W, F W → Calls P f args W R) : Calls P f args w R := h w hF
theorem bdd {B : Nat} {a w : World} (h : Below B a w) : Below B a w.drew := h.drew
/-- Behind a call that has written one row of the call's own: a cell of another block. -/
theorem cell_grown {w w' : World} {row : Option Nat} {a : Addr} {v : Value} (hg : w.grownBy w' row) (h : w.cell? a = some v) (hne : row ≠ some a.block) : w'.cell? a = some v :=
  hg.cell h (Ne.symm hne)
theorem free_grown {w w' : World} {row : Option Nat} {a : Addr} {v : Value} (hg : w.grownBy w' row) (h : w.cell? a = some v) (hf : w.frozen? a = false) (hne : row ≠ some a.block) : w'.frozen? a = false :=
  (World.frozen?_of_block (hg.block a.block (World.block_lt_of_cell? _ _ h) (Ne.symm hne))).trans hf
theorem below_grown {w w' : World} {row : Option Nat} {B : Nat} (hg : w.grownBy w' row) (hB : B ≤ w.heap.size) (hr : ∀ k, row = some k → B ≤ k) : Below B w w' := (Below.refl _ _).grown hg hB hr

/-- A slice of the call's own is kept where another block is written. -/
theorem Own.kept {α : Type} {R : Rep α} {e : TypeId} {B : Nat} {w w' : World} {v : Value} {xs : List α} {row : Option Nat} (h : Own R e B w v xs) (hg : w.grownBy w' row) (hne : ∀ k, v.ownBlock = some k → row ≠ some k) (keep : ∀ cs y, R.is w cs y → R.is w' cs y) : Own R e B w' v xs := by
  obtain ⟨cells, ho, hm⟩ := h
  refine ⟨cells, ho.kept hg ?_, ?_⟩
  · cases hv : v.ownBlock with
    | none => exact .inl rfl
    | some k => exact .inr (fun e => hne k hv e.symm)
  · have keepm : ∀ {l : List α} {cl : List Value}, R.many w cl l → R.many w' cl l := by
      intro l
      induction l with
      | nil => exact fun h => h
      | cons y l ih => exact fun ⟨cs, rest, e, h1, h4⟩ => ⟨cs, rest, e, keep cs y h1, ih h4⟩
    exact keepm hm

/-- Two slices of the call's own whose elements' types differ lie in two blocks. -/
theorem Own.apart {α β : Type} {R : Rep α} {S : Rep β} {e f : TypeId} {B C : Nat} {w : World} {v u : Value} {xs : List α} {ys : List β} (h : Own R e B w v xs) (h' : Own S f C w u ys) (hne : e ≠ f) : ∀ k, v.ownBlock = some k → u.ownBlock ≠ some k := by
  intro k hk hu
  obtain ⟨_, ho, _⟩ := h
  obtain ⟨_, ho', _⟩ := h'
  rcases ho.2 with ⟨rfl, _⟩ | ⟨g, cap, cur, rfl, _, hg, _⟩
  · cases hk
  · rcases ho'.2 with ⟨rfl, _⟩ | ⟨g', cap', cur', rfl, _, hg', _⟩
    · cases hu
    · cases hk; cases hu
      rw [hg] at hg'
      injection hg' with hg'
      injection hg' with _ ht
      exact hne ht

/-- An element of a slice of the call's own: its cells, which may be written. -/
theorem Own.at_ {α : Type} {R : Rep α} {e B c n k : Nat} {A : Option Addr} {w : World} {ys : List α} (h : Own R e B w (.slice A n c) ys) (hk : k < ys.length) :
    ∃ g cs, A = some ⟨g, 0, none⟩ ∧ B ≤ g ∧ g < w.heap.size ∧ R.is w cs ys[k] ∧ (∀ j u, cs[j]? = some u → w.cell? ⟨g, k * R.size + j, none⟩ = some u) ∧ ∀ j, w.frozen? ⟨g, j, none⟩ = false := by
  obtain ⟨b, off, cs, rfl, _⟩ := h.sl.at_ hk
  have h0 : off = 0 ∧ True := by
    obtain ⟨_, ho, _⟩ := h
    rcases ho.2 with ⟨h', _⟩ | ⟨g', _, _, h', _⟩
    · cases h'
    · injection h' with h'; injection h' with h'; injection h' with _ h'; exact ⟨h', trivial⟩
  obtain ⟨rfl, _⟩ := h0
  obtain ⟨cs, h1, h2, h3⟩ := h.cell_ hk
  exact ⟨b, cs, rfl, h.block.1, h.block.2.1, h1, h2, h3⟩
theorem Own.atI {e B c n k : Nat} {A : Option Addr} {w : World} {ys : List Int} (h : Own intR e B w (.slice A n c) ys) (hk : k < ys.length) :
    ∃ g, A = some ⟨g, 0, none⟩ ∧ B ≤ g ∧ g < w.heap.size ∧ w.cell? ⟨g, k, none⟩ = some (.int .i64 ys[k]) ∧ w.frozen? ⟨g, k, none⟩ = false ∧ Bd ys[k] := by
  obtain ⟨g, cs, rfl, h1, h2, ⟨rfl, hb⟩, h3, h4⟩ := h.at_ hk
  have h5 := h3 0 _ rfl
  simp only [intR, Nat.mul_one, Nat.add_zero] at h5
  exact ⟨g, rfl, h1, h2, h5, h4 k, hb⟩
theorem grownBy_set (w : World) (g j : Nat) (u : Value) : w.grownBy (w.setCell ⟨g, j, none⟩ u) (some g) :=
  ⟨rfl, rfl, rfl, by simp, fun k _ hk => Below.heap_setCell _ _ _ _ (fun e => hk (by rw [e]))⟩
theorem grownBy_putAt : ∀ (us : List Value) (w : World) (g off : Nat), w.grownBy (putAt w g off us) (some g)
  | [], w, _, _ => World.grownBy.refl w _
  | u :: us, w, g, off => grownBy_trans (grownBy_set w g off u) (grownBy_putAt us _ g _)
theorem putAt_other : ∀ (us : List Value) (w : World) (g off j : Nat), j < off → (putAt w g off us).cell? ⟨g, j, none⟩ = w.cell? ⟨g, j, none⟩
  | [], _, _, _, _, _ => rfl
  | u :: us, w, g, off, j, h => by
    rw [putAt, putAt_other us _ g (off + 1) j (by omega)]
    exact World.cell?_setCell_other w _ _ u (fun e => by injection e; omega)
/-- Cells that have been written read as they were written. -/
theorem put_at : ∀ (us : List Value) {w : World} {g off : Nat}, (∀ j, j < us.length → ∃ u, w.cell? ⟨g, off + j, none⟩ = some u) → At (putAt w g off us) g off us
  | [], _, _, _, _ => fun j u hu => by simp at hu
  | u :: us, w, g, off, h => fun j v hv => by
    have h0 : ∀ j, j < us.length → ∃ v, (w.setCell ⟨g, off, none⟩ u).cell? ⟨g, off + 1 + j, none⟩ = some v := fun j hj => by
      obtain ⟨v, hv⟩ := h (j + 1) (by simpa using hj)
      refine ⟨v, ?_⟩
      rw [World.cell?_setCell_other w _ _ u (fun e => by injection e; omega), show off + 1 + j = off + (j + 1) from by omega]
      exact hv
    have ih := put_at us h0
    cases j with
    | zero =>
      simp at hv
      subst hv
      obtain ⟨v, hv⟩ := h 0 (by simp)
      show (putAt (w.setCell ⟨g, off, none⟩ u) g (off + 1) us).cell? ⟨g, off, none⟩ = _
      rw [putAt_other us _ g _ off (by omega)]
      exact World.cell?_setCell_same w _ u (by simpa using hv)
    | succ j =>
      have := ih j v (by simpa using hv)
      rw [show off + 1 + j = off + (j + 1) from by omega] at this
      exact this
/-- Two cells of one block are written. -/
theorem put2 {w : World} {g : Nat} {u v a b : Value} (h0 : w.cell? ⟨g, 0, none⟩ = some u) (h1 : w.cell? ⟨g, 1, none⟩ = some v) :
    ((w.setCell ⟨g, 0, none⟩ a).setCell ⟨g, 1, none⟩ b).cell? ⟨g, 0, none⟩ = some a ∧ ((w.setCell ⟨g, 0, none⟩ a).setCell ⟨g, 1, none⟩ b).cell? ⟨g, 1, none⟩ = some b ∧ w.grownBy ((w.setCell ⟨g, 0, none⟩ a).setCell ⟨g, 1, none⟩ b) (some g) := by
  have h := put_at [a, b] (w := w) (g := g) (off := 0) fun j hj => by
    match j, hj with
    | 0, _ => exact ⟨u, h0⟩
    | 1, _ => exact ⟨v, h1⟩
  exact ⟨h 0 a rfl, h 1 b rfl, grownBy_putAt [a, b] w g 0⟩

theorem Own.putI {e B g cap n k : Nat} {w : World} {ys : List Int} {x : Int} (h : Own intR e B w (.slice (some ⟨g, 0, none⟩) n cap) ys) (hk : k < ys.length) (hx : Bd x) :
    Own intR e B (w.setCell ⟨g, k, none⟩ (.int .i64 x)) (.slice (some ⟨g, 0, none⟩) n cap) (ys.set k x) ∧ w.grownBy (w.setCell ⟨g, k, none⟩ (.int .i64 x)) (some g) := by
  have h1 := h.put hk (x := x) (cs := [.int .i64 x]) ⟨rfl, hx⟩ (fun _ _ _ _ h => h)
  have e : putAt w g (k * intR.size) [.int .i64 x] = w.setCell ⟨g, k, none⟩ (.int .i64 x) := by simp [putAt, intR]
  rw [e] at h1
  exact h1
end Go.Proofs.YtcomfhigbjkoeaaGreatDoor
