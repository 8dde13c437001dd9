/-
  No statement is proved here: words for memory that the other texts of this seat use: what a slice, a row of cells, a struct reads as, and that it still reads so in every later world. Conditions: none.
-/
import Derived.WalkKit
import Derived.WalkSpells
import Derived.WalkLawsBesides
import Derived.Deep.QuietTactic
import Derived.BigQuiet
import Derived.Lib.Hide
namespace Go.Proofs.YtcomfhigbjkoeaaGreatDoor
open Go.RowKit

/-- What the cells 'cs' read as, in a world; it is kept by every later world. -/
structure Rep (α : Type) where
  size : Nat
  is : World → List Value → α → Prop
  len : ∀ {w cs x}, is w cs x → cs.length = size
  one : ∀ {w cs x}, is w cs x → ∀ u ∈ cs, u.oneCell' = true
  up : ∀ {w w' cs x}, Below w.heap.size w w' → is w cs x → is w' cs x

def At (w : World) (b off : Nat) (cs : List Value) : Prop := ∀ j u, cs[j]? = some u → w.cell? ⟨b, off + j, none⟩ = some u

theorem At.up {w w' : World} {b off : Nat} {cs : List Value} (h : At w b off cs) (hb : Below w.heap.size w w') : At w' b off cs := fun j u hu => by
  have h1 := h j u hu
  exact (hb.cell (p := ⟨b, off + j, none⟩) (World.block_lt_of_cell? _ _ h1)).trans h1

theorem At.of {w w' : World} {b off : Nat} {cs : List Value} (h : At w b off cs) (hk : ∀ j, w'.cell? ⟨b, j, none⟩ = w.cell? ⟨b, j, none⟩) : At w' b off cs := fun j u hu =>
  (hk _).trans (h j u hu)

def Bd (x : Int) : Prop := -9223372036854775808 ≤ x ∧ x ≤ 9223372036854775807

/-- A slice reads as a list. -/
def Sl {α : Type} (R : Rep α) (w : World) (v : Value) (xs : List α) : Prop :=
  ∃ A c, v = .slice A xs.length c ∧ xs.length ≤ c ∧ c ≤ 9223372036854775807 ∧
    ((xs.length = 0 ∧ c = 0) ∨ ∃ b off, A = some ⟨b, off, none⟩ ∧ b < w.heap.size ∧ ∀ i x, xs[i]? = some x → ∃ cs, R.is w cs x ∧ At w b (off + i * R.size) cs)

theorem Sl.up {α : Type} {R : Rep α} {w w' : World} {v : Value} {xs : List α} (h : Sl R w v xs) (hb : Below w.heap.size w w') : Sl R w' v xs := by
  obtain ⟨A, c, rfl, hc, hm, h⟩ := h
  refine ⟨A, c, rfl, hc, hm, ?_⟩
  rcases h with h | ⟨b, off, rfl, hlt, h⟩
  · exact .inl h
  · refine .inr ⟨b, off, rfl, Nat.lt_of_lt_of_le hlt hb.size, fun i x hi => ?_⟩
    obtain ⟨cs, h1, h2⟩ := h i x hi
    exact ⟨cs, R.up hb h1, h2.up hb⟩

theorem Sl.none {α : Type} (R : Rep α) (w : World) : Sl R w (.slice .none 0 0) [] := ⟨.none, 0, rfl, Nat.le_refl _, by omega, .inl ⟨rfl, rfl⟩⟩

theorem Sl.nil {α : Type} {R : Rep α} {w : World} {A : Option Addr} {n c : Nat} {xs : List α} (h : Sl R w (.slice A n c) xs) : n = xs.length := by
  obtain ⟨A', c', he, _⟩ := h
  injection he

theorem Sl.open {α : Type} {R : Rep α} {w : World} {v : Value} {xs : List α} (h : Sl R w v xs) : ∃ A c, v = .slice A xs.length c ∧ xs.length ≤ c ∧ c ≤ 9223372036854775807 ∧ Sl R w (.slice A xs.length c) xs := by
  have h' := h
  obtain ⟨A, c, rfl, hc, hm, _⟩ := h
  exact ⟨A, c, rfl, hc, hm, h'⟩

theorem Sl.at_ {α : Type} {R : Rep α} {w : World} {A : Option Addr} {n c k : Nat} {xs : List α} (h : Sl R w (.slice A n c) xs) (hk : k < xs.length) :
    ∃ b off cs, A = some ⟨b, off, .none⟩ ∧ b < w.heap.size ∧ R.is w cs xs[k] ∧ At w b (off + k * R.size) cs := by
  obtain ⟨A', c', he, hc, hm, h⟩ := h
  injection he with e1 e2 e3
  subst e1 e3
  rcases h with ⟨_, h0⟩ | ⟨b, off, rfl, hlt, h⟩
  · omega
  · obtain ⟨cs, h1, h2⟩ := h k xs[k] (List.getElem?_eq_getElem hk)
    exact ⟨b, off, cs, rfl, hlt, h1, h2⟩

def intR : Rep Int where
  size := 1
  is _ cs x := cs = [.int .i64 x] ∧ Bd x
  len h := by rw [h.1]; rfl
  one h := by rw [h.1]; simp [Value.oneCell']
  up _ h := h

theorem Sl.atI {w : World} {A : Option Addr} {n c k : Nat} {xs : List Int} (h : Sl intR w (.slice A n c) xs) (hk : k < xs.length) :
    ∃ b off, A = some ⟨b, off, .none⟩ ∧ b < w.heap.size ∧ w.cell? ⟨b, off + k, .none⟩ = some (.int .i64 xs[k]) ∧ Bd xs[k] := by
  obtain ⟨b, off, cs, rfl, hb, ⟨rfl, hx⟩, h2⟩ := h.at_ hk
  have h3 := h2 0 _ rfl
  simp only [intR, Nat.mul_one, Nat.add_zero] at h3
  exact ⟨b, off, rfl, hb, h3, hx⟩

/-- One behind the other, cells read as a list. -/
def Rep.many {α : Type} (R : Rep α) (w : World) : List Value → List α → Prop
  | cells, [] => cells = []
  | cells, x :: xs => ∃ cs rest, cells = cs ++ rest ∧ R.is w cs x ∧ R.many w rest xs

theorem Rep.many_len {α : Type} {R : Rep α} {w : World} : ∀ {xs : List α} {cells : List Value}, R.many w cells xs → cells.length = xs.length * R.size
  | [], cells, h => by simp only [Rep.many] at h; subst h; simp
  | x :: xs, cells, h => by
    obtain ⟨cs, rest, rfl, h1, h2⟩ := h
    have e := Rep.many_len h2
    have e1 := R.len h1
    rw [List.length_append, e, e1, List.length_cons, Nat.add_mul, Nat.one_mul, Nat.add_comm]

theorem Rep.many_up {α : Type} {R : Rep α} {w w' : World} (hb : Below w.heap.size w w') : ∀ {xs : List α} {cells : List Value}, R.many w cells xs → R.many w' cells xs
  | [], _, h => h
  | _ :: _, _, ⟨cs, rest, e, h1, h2⟩ => ⟨cs, rest, e, R.up hb h1, Rep.many_up hb h2⟩

theorem Rep.many_append {α : Type} {R : Rep α} {w : World} : ∀ {xs ys : List α} {cells more : List Value}, R.many w cells xs → R.many w more ys → R.many w (cells ++ more) (xs ++ ys)
  | [], ys, cells, more, h, h' => by simp only [Rep.many] at h; subst h; simpa using h'
  | x :: xs, ys, _, more, ⟨cs, rest, e, h1, h2⟩, h' => ⟨cs, rest ++ more, by rw [e, List.append_assoc], h1, Rep.many_append h2 h'⟩

theorem Rep.many_one {α : Type} {R : Rep α} {w : World} {x : α} {cs : List Value} (h : R.is w cs x) : R.many w cs [x] := ⟨cs, [], by simp, h, rfl⟩

theorem Rep.many_at {α : Type} {R : Rep α} {w : World} : ∀ {xs : List α} {cells : List Value} {i : Nat} {x : α}, R.many w cells xs → xs[i]? = some x →
    ∃ cs, R.is w cs x ∧ ∀ j u, cs[j]? = some u → cells[i * R.size + j]? = some u
  | [], _, i, x, _, hi => by simp at hi
  | y :: xs, _, 0, x, ⟨cs, rest, e, h1, h2⟩, hi => by
    simp at hi; subst hi; subst e
    refine ⟨cs, h1, fun j u hu => ?_⟩
    have hj : j < cs.length := by
      rcases Nat.lt_or_ge j cs.length with h | h
      · exact h
      · rw [List.getElem?_eq_none h] at hu; cases hu
    rw [Nat.zero_mul, Nat.zero_add, List.getElem?_append_left hj]
    exact hu
  | y :: xs, _, i + 1, x, ⟨cs, rest, e, h1, h2⟩, hi => by
    simp at hi; subst e
    obtain ⟨ds, h3, h4⟩ := Rep.many_at h2 hi
    refine ⟨ds, h3, fun j u hu => ?_⟩
    have e1 := R.len h1
    have e2 : (i + 1) * R.size + j = cs.length + (i * R.size + j) := by rw [Nat.add_mul, e1]; omega
    rw [e2, List.getElem?_append_right (by omega), Nat.add_sub_cancel_left]
    exact h4 j u hu

theorem many_ints {w : World} : ∀ {xs : List Int}, (∀ x, x ∈ xs → Bd x) → intR.many w (xs.map (Value.int .i64)) xs
  | [], _ => rfl
  | x :: xs, h => ⟨[.int .i64 x], xs.map (Value.int .i64), rfl, ⟨rfl, h x (by simp)⟩, many_ints fun y hy => h y (by simp [hy])⟩

theorem ints_of_many {w : World} : ∀ {xs : List Int} {cells : List Value}, intR.many w cells xs → cells = xs.map (Value.int .i64) ∧ ∀ x, x ∈ xs → Bd x
  | [], _, h => ⟨h, by simp⟩
  | x :: xs, _, ⟨cs, rest, e, ⟨h1, hx⟩, h2⟩ => by
    obtain ⟨e2, hall⟩ := ints_of_many h2
    subst e2 h1 e
    exact ⟨rfl, fun y hy => by
      rcases List.mem_cons.1 hy with rfl | hy
      · exact hx
      · exact hall y hy⟩

/-- A slice of the call's own (from block B on), of elements of type e, that reads as a list. -/
def Own {α : Type} (R : Rep α) (e : TypeId) (B : Nat) (w : World) (v : Value) (xs : List α) : Prop := ∃ cells, w.ownsRow B e R.size v xs.length cells ∧ R.many w cells xs

theorem Own.nil {α : Type} (R : Rep α) (e : TypeId) (B : Nat) (w : World) : Own R e B w (.slice .none 0 0) [] := ⟨[], World.ownsRow_nil w B e R.size, rfl⟩

theorem Own.sl {α : Type} {R : Rep α} {e : TypeId} {B : Nat} {w : World} {v : Value} {xs : List α} (h : Own R e B w v xs) : Sl R w v xs := by
  obtain ⟨cells, ho, hm⟩ := h
  have ho' := ho
  obtain ⟨hl, h2⟩ := ho
  rcases h2 with ⟨rfl, h0⟩ | ⟨g, cap, cur, rfl, _, hg, hnc, hcm, hcs, htake⟩
  · have : xs = [] := List.eq_nil_of_length_eq_zero h0
    subst this
    exact Sl.none R w
  · refine ⟨some ⟨g, 0, .none⟩, cap, rfl, hnc, by simp only [maxLen] at hcm; omega, .inr ⟨g, 0, rfl, (Array.getElem?_eq_some_iff.1 hg).1, fun i x hi => ?_⟩⟩
    obtain ⟨cs, h3, h4⟩ := R.many_at hm hi
    refine ⟨cs, h3, fun j u hu => ?_⟩
    have h5 := ho'.cells (g := g) rfl _ u (h4 j u hu)
    have hadd : (⟨g, 0, .none⟩ : Addr).add (i * R.size + j) = ⟨g, i * R.size + j, .none⟩ := by unfold Addr.add; split <;> simp_all
    rw [hadd] at h5
    rw [show 0 + i * R.size + j = i * R.size + j from by omega]
    exact h5

theorem Own.up {α : Type} {R : Rep α} {e : TypeId} {B : Nat} {w w' : World} {v : Value} {xs : List α} (h : Own R e B w v xs) (hb : Below w.heap.size w w') : Own R e B w' v xs := by
  obtain ⟨cells, ho, hm⟩ := h
  refine ⟨cells, ⟨ho.1, ?_⟩, R.many_up hb hm⟩
  rcases ho.2 with h2 | ⟨g, cap, cur, hv, hB, hg, r⟩
  · exact .inl h2
  · exact .inr ⟨g, cap, cur, hv, hB, (hb.block g (Array.getElem?_eq_some_iff.1 hg).1).trans hg, r⟩

theorem Own.mono {α : Type} {R : Rep α} {e : TypeId} {B B' : Nat} {w : World} {v : Value} {xs : List α} (h : Own R e B w v xs) (hB : B' ≤ B) : Own R e B' w v xs := by
  obtain ⟨cells, ho, hm⟩ := h
  refine ⟨cells, ⟨ho.1, ?_⟩, hm⟩
  rcases ho.2 with h2 | ⟨g, cap, cur, hv, hg, r⟩
  · exact .inl h2
  · exact .inr ⟨g, cap, cur, hv, Nat.le_trans hB hg, r⟩

/-- What an element reads as does not hang on the world (numbers, strings, structs of them). -/
def Rep.flat {α : Type} (R : Rep α) : Prop := ∀ w w' cs x, R.is w cs x → R.is w' cs x

theorem intR_flat : intR.flat := fun _ _ _ _ h => h

theorem Rep.many_flat {α : Type} {R : Rep α} (hf : R.flat) {w w' : World} : ∀ {xs : List α} {cells : List Value}, R.many w cells xs → R.many w' cells xs
  | [], _, h => h
  | _ :: _, _, ⟨cs, rest, e, h1, h2⟩ => ⟨cs, rest, e, hf _ _ _ _ h1, Rep.many_flat hf h2⟩

theorem Rep.many_ones {α : Type} {R : Rep α} {w : World} : ∀ {xs : List α} {cells : List Value}, R.many w cells xs → ∀ u ∈ cells, u.oneCell' = true
  | [], _, h => by simp only [Rep.many] at h; subst h; simp
  | x :: xs, _, ⟨cs, rest, e, h1, h2⟩ => by
    subst e
    intro u hu
    rcases List.mem_append.1 hu with hu | hu
    · exact R.one h1 u hu
    · exact Rep.many_ones h2 u hu

/-- The cells of a slice, gathered. -/
theorem gather {α : Type} {R : Rep α} {w : World} {b off : Nat} : ∀ {xs : List α}, (∀ i x, xs[i]? = some x → ∃ cs, R.is w cs x ∧ At w b (off + i * R.size) cs) → ∃ cells, R.many w cells xs ∧ At w b off cells := by
  intro xs
  induction xs generalizing off with
  | nil => exact fun _ => ⟨[], rfl, fun j u hu => by simp at hu⟩
  | cons x xs ih =>
    intro h
    obtain ⟨cs, h1, h2⟩ := h 0 x rfl
    obtain ⟨cells, h3, h4⟩ := ih (off := off + R.size) fun i y hi => by
      obtain ⟨ds, h5, h6⟩ := h (i + 1) y (by simpa using hi)
      exact ⟨ds, h5, by rw [show off + R.size + i * R.size = off + (i + 1) * R.size from by rw [Nat.add_mul]; omega]; exact h6⟩
    refine ⟨cs ++ cells, ⟨cs, cells, rfl, h1, h3⟩, fun j u hu => ?_⟩
    have hl := R.len h1
    rcases Nat.lt_or_ge j cs.length with hj | hj
    · rw [List.getElem?_append_left hj] at hu
      have := h2 j u hu
      simpa using this
    · rw [List.getElem?_append_right hj] at hu
      have := h4 _ u hu
      rw [show off + R.size + (j - cs.length) = off + j from by omega] at this
      exact this

theorem addr_add (b o j : Nat) : (⟨b, o, .none⟩ : Addr).add j = ⟨b, o + j, .none⟩ := by unfold Addr.add; split <;> simp_all

section
variable {P : Program} (w : World)
theorem run_append_of_nil (base : Nat) (t ty e : TypeId) (i : TypeInfo) (size : Nat) (ht : P.underlying t = some (.slice e)) (hi : P.info? e = some i)
    (v : Value) (n : Nat) (xs : List Value) (hown : w.ownsRow base e size v n xs) (c : Nat) : (Builtin.append_ #[t, t] ty #[v, .slice none 0 c]).run P w = .ok v w := by
  rcases hown.2 with ⟨rfl, rfl⟩ | ⟨g, cap, cur, rfl, _, _, hnc, _⟩
  · simp [Builtin.append_, run_underlying ht, sizeOf, typeInfo, hi, Builtin.lenOf, Builtin.firstCells]
  · simp [Builtin.append_, run_underlying ht, sizeOf, typeInfo, hi, Builtin.lenOf, Builtin.firstCells, hnc, storeCells]

/-- 'append(a, b...)' onto a row of the call's own, the source whatever slice reads as a list; the elements' reading is kept by what the append does ('keep'). -/
theorem run_append_sl {α : Type} (R : Rep α) (base : Nat) (t ty e : TypeId) (z : Value) (bytes : Nat) (ht : P.underlying t = some (.slice e))
    (hinfo : (P.info? e).map (fun i => (i.zero, i.size, i.bytes)) = some (some z, R.size, bytes)) (hzs : z.cells.size = R.size) (hsz : 0 < R.size)
    (v : Value) (xs : List α) (hown : Own R e base w v xs) (x : Value) (ys : List α) (hx : Sl R w x ys)
    (hbytes : (xs.length + ys.length) * bytes ≤ 140737488355328) (hby : 0 < bytes) (hbase : base ≤ w.heap.size)
    (keep : ∀ w', w.grownBy w' v.ownBlock → ∀ cs y, R.is w cs y → R.is w' cs y) :
    ∃ v' w', (Builtin.append_ #[t, t] ty #[v, x]).run P w = .ok v' w' ∧ Own R e base w' v' (xs ++ ys) ∧ w.grownBy w' v.ownBlock ∧ (v'.ownBlock = v.ownBlock ∨ v'.ownBlock = some w.heap.size) := by
  obtain ⟨i, hi, hz, hs, hb⟩ := info_parts hinfo
  obtain ⟨cells, ho, hm⟩ := hown
  obtain ⟨A, c, rfl, hc, hcm, hA⟩ := hx
  have keepm : ∀ w', w.grownBy w' v.ownBlock → ∀ {l : List α} {cl : List Value}, R.many w cl l → R.many w' cl l := by
    intro w' hg l
    induction l with
    | nil => exact fun h => h
    | cons y l ih => exact fun ⟨cs, rest, e, h1, h2⟩ => ⟨cs, rest, e, keep w' hg cs y h1, ih h2⟩
  have h63 : xs.length + ys.length ≤ maxLen := by
    simp only [maxLen]
    have := Nat.mul_le_mul_left (xs.length + ys.length) (show 1 ≤ bytes from hby)
    omega
  rcases hA with ⟨hn, h0⟩ | ⟨b, off, rfl, hlt, hcells⟩
  · have hy : ys = [] := List.eq_nil_of_length_eq_zero hn
    subst hy
    cases A with
    | none => exact ⟨v, w, run_append_of_nil w base t ty e i R.size ht hi v _ cells ho c, ⟨cells, by simpa using ho, by simpa using hm⟩, World.grownBy.refl w _, .inl rfl⟩
    | some a0 =>
      obtain ⟨v', w', hrun, h2, h3, _, h5⟩ := run_append_own_at (P := P) w base t ty e i z R.size bytes ht hi hz hs hb hzs hsz v _ cells ho a0 0 c [] (by simp)
        (fun j u hu => by simp at hu) (fun u hu => by simp at hu) (by simpa using h63) (by simpa using hbytes) hbase
      exact ⟨v', w', hrun, ⟨cells, by simpa using h2, by simpa using keepm w' h3 hm⟩, h3, h5⟩
  · obtain ⟨more, hm2, hat⟩ := gather hcells
    obtain ⟨v', w', hrun, h2, h3, _, h5⟩ := run_append_own_at (P := P) w base t ty e i z R.size bytes ht hi hz hs hb hzs hsz v _ cells ho ⟨b, off, .none⟩ ys.length c more (R.many_len hm2)
      (fun j u hu => by rw [addr_add]; exact hat j u hu) (R.many_ones hm2) h63 hbytes hbase
    exact ⟨v', w', hrun, ⟨cells ++ more, by rw [List.length_append]; exact h2, R.many_append (keepm w' h3 hm) (keepm w' h3 hm2)⟩, h3, h5⟩

theorem wp_append_sl {α : Type} {o : Oper} {a : Act} {K : Act → World → Prop} {Q : Exit → Act → World → Prop} (s y : Operand) (t : TypeId)
    (ho : o.op = .call { callee := .builtin .append, args := #[s, y], argTypes := #[t, t] })
    (R : Rep α) (base : Nat) (e : TypeId) (z : Value) (bytes : Nat) (ht : P.underlying t = some (.slice e))
    (hinfo : (P.info? e).map (fun i => (i.zero, i.size, i.bytes)) = some (some z, R.size, bytes)) (hzs : z.cells.size = R.size) (hsz : 0 < R.size)
    (v : Value) (xs : List α) (hs : a.eval s = v) (hown : Own R e base w v xs) (x : Value) (ys : List α) (he : a.eval y = x) (hx : Sl R w x ys)
    (hbytes : (xs.length + ys.length) * bytes ≤ 140737488355328) (hby : 0 < bytes) (hbase : base ≤ w.heap.size)
    (keep : ∀ w', w.grownBy w' v.ownBlock → ∀ cs y, R.is w cs y → R.is w' cs y)
    (h : ∀ v' w', Own R e base w' v' (xs ++ ys) → w.grownBy w' v.ownBlock → (v'.ownBlock = v.ownBlock ∨ v'.ownBlock = some w.heap.size) → K (a.put o.dst v') w') : o.wp P a w K Q := by
  obtain ⟨v', w', hrun, h2, h3, h4⟩ := run_append_sl (P := P) w R base t o.type e z bytes ht hinfo hzs hsz v xs hown x ys hx hbytes hby hbase keep
  unfold Oper.wp execOp
  simp only [ho, resolve, invoke, builtin, Sem.run_bind, Sem.run_pure, Result.andThen_ok, List.map_toArray, List.map_cons, List.map_nil, hs, he, hrun]
  exact h v' w' h2 h3 h4

theorem wpList_append_sl {α : Type} {ops : Array Oper} {rest : List Oper} {o : Oper} {a : Act} {Q : Exit → Act → World → Prop} (hgd : o.guard = none) (s y : Operand) (t : TypeId)
    (ho : o.op = .call { callee := .builtin .append, args := #[s, y], argTypes := #[t, t] })
    (R : Rep α) (base : Nat) (e : TypeId) (z : Value) (bytes : Nat) (ht : P.underlying t = some (.slice e))
    (hinfo : (P.info? e).map (fun i => (i.zero, i.size, i.bytes)) = some (some z, R.size, bytes)) (hzs : z.cells.size = R.size) (hsz : 0 < R.size)
    (v : Value) (xs : List α) (hs : a.eval s = v) (hown : Own R e base w v xs) (x : Value) (ys : List α) (he : a.eval y = x) (hx : Sl R w x ys)
    (hbytes : (xs.length + ys.length) * bytes ≤ 140737488355328) (hby : 0 < bytes) (hbase : base ≤ w.heap.size)
    (keep : ∀ w', w.grownBy w' v.ownBlock → ∀ cs y, R.is w cs y → R.is w' cs y)
    (h : ∀ v' w', Own R e base w' v' (xs ++ ys) → w.grownBy w' v.ownBlock → (v'.ownBlock = v.ownBlock ∨ v'.ownBlock = some w.heap.size) → wpList P ops Q rest (a.put o.dst v') w') : wpList P ops Q (o :: rest) a w :=
  wpList_plain hgd fun _ hK => wp_append_sl w s y t ho R base e z bytes ht hinfo hzs hsz v xs hs hown x ys he hx hbytes hby hbase keep fun v' w' h2 h3 h4 => hK _ _ (h v' w' h2 h3 h4)
end

theorem Own.form {α : Type} {R : Rep α} {e : TypeId} {B : Nat} {w : World} {v : Value} {xs : List α} (h : Own R e B w v xs) : ∃ A c, v = .slice A xs.length c ∧ xs.length ≤ c ∧ c ≤ 9223372036854775807 ∧ Own R e B w (.slice A xs.length c) xs := by
  have h' := h
  obtain ⟨A, c, rfl, hc, hm, _⟩ := h.sl.open
  exact ⟨A, c, rfl, hc, hm, h'⟩

theorem Own.lt {α : Type} {R : Rep α} {e : TypeId} {B : Nat} {w : World} {v : Value} {xs : List α} (h : Own R e B w v xs) : ∀ k, v.ownBlock = some k → B ≤ k ∧ k < w.heap.size := h.elim fun _ h => h.1.lt

/-- An empty slice over a block that has just been laid ('[]T{}'). -/
theorem Own.empty {α : Type} (R : Rep α) (e : TypeId) {B : Nat} (w : World) (hB : B ≤ w.heap.size) : Own R e B (w.alloc (.cells #[] e)) (.slice (some ⟨w.heap.size, 0, .none⟩) 0 0) [] :=
  ⟨[], World.ownsRow_made w #[] 0 hB (by simp [maxLen]) (by simp), rfl⟩

theorem Sl.drop {α : Type} {R : Rep α} {w : World} {b off n c : Nat} {xs : List α} (h : Sl R w (.slice (some ⟨b, off, .none⟩) n c) xs) {k : Nat} (hk : k ≤ xs.length) {o' n' c' : Nat} (ho : o' = off + k * R.size) (hn : n' = xs.length - k) (hc : c' = c - k) :
    Sl R w (.slice (some ⟨b, o', .none⟩) n' c') (xs.drop k) := by
  subst ho hn hc
  obtain ⟨A', d, he, h1, h2, h3⟩ := h
  injection he with e1 e2 e3
  subst e1 e2 e3
  refine ⟨_, _, by rw [List.length_drop], by rw [List.length_drop]; omega, by omega, ?_⟩
  rcases h3 with ⟨h3, h4⟩ | ⟨b', off', he, hlt, hcells⟩
  · exact .inl ⟨by rw [List.length_drop]; omega, by omega⟩
  · injection he with he
    injection he with he1 he2
    subst he1 he2
    refine .inr ⟨b, _, rfl, hlt, fun i x hi => ?_⟩
    rw [List.getElem?_drop] at hi
    obtain ⟨cs, h4, h5⟩ := hcells _ x hi
    exact ⟨cs, h4, by rw [show off + k * R.size + i * R.size = off + (k + i) * R.size from by rw [Nat.add_mul]; omega]; exact h5⟩

/-- The results' ending, an int given by an equation. -/
theorem ret_int {k : IntKind} {a b : Int} (h : a = b) : Ending.returned (.int k a) = .returned (.int k b) := by rw [h]
theorem ret_bool {a b : Bool} (h : a = b) : Ending.returned (.bool a) = .returned (.bool b) := by rw [h]

theorem ba (w : World) (o : Obj) : Below w.heap.size w (w.alloc o) := (Below.refl _ _).alloc (Nat.le_refl _) o
theorem bdN {B : Nat} {a w : World} (h : Below B a w) (n : Nat) : Below B a (w.drewN n) := ⟨h.os, h.tape, h.output, h.size, h.block⟩
/-- A block of cells that was laid ahead of a call reads behind it as it was laid. -/
theorem box_cell {w w1 : World} {cs : Array Value} {t : TypeId} {z : Nat × Nat} (hb : Below (w.alloc (.cells cs t z)).heap.size (w.alloc (.cells cs t z)) w1) (i : Nat) (u : Value) (hu : cs[i]? = some u) : w1.cell? ⟨w.heap.size, i, .none⟩ = some u := by
  rw [hb.cell (p := ⟨w.heap.size, i, .none⟩) (by simp)]
  exact (cell_of_row _ _ i cs t z (heap_alloc_new w _)).trans hu
theorem box_lt {w w1 : World} {o : Obj} (hb : Below (w.alloc o).heap.size (w.alloc o) w1) : w.heap.size < w1.heap.size := by
  have := hb.size; simp at this; omega
theorem box_free {w w1 : World} {cs : Array Value} {t : TypeId} (hb : Below (w.alloc (.cells cs t)).heap.size (w.alloc (.cells cs t)) w1) (i : Nat) : w1.frozen? ⟨w.heap.size, i, .none⟩ = false := by
  rw [hb.frozen (p := ⟨w.heap.size, i, .none⟩) (by simp)]
  simp
theorem free_later {w wx : World} {a : Addr} {v : Value} (hb : Below w.heap.size w wx) (h : w.cell? a = some v) (hf : w.frozen? a = false) : wx.frozen? a = false :=
  (hb.frozen (World.block_lt_of_cell? _ _ h)).trans hf
theorem below_size {B : Nat} {a w : World} (h : Below B a w) : a.heap.size ≤ w.heap.size := h.size
end Go.Proofs.YtcomfhigbjkoeaaGreatDoor
