/-
  No statement is proved here: the last step of each law's row, once for all laws: what is read of the arguments before the call is read after it, where nothing old has turned; and slices among the arguments, opened. Conditions: none.
-/
import Derived.Test.YtcomfhigbjkoeaaGreatDoorLibC
import Derived.ProofKit
import Derived.Lib.SmallJoins
namespace Go.Proofs.YtcomfhigbjkoeaaGreatDoor
open Go.RowKit Go.ChangeShapes Go.WideShapes Go.ChangeAt

/-- Each type is a row of the table and can be read. -/
def rowed (P : Program) (ts : List TypeId) : Bool := ts.all fun t => P.readableRec t && decide (t < P.types.size)

section
variable {H : Type} {enc : TypeId × Value → H} {P : Program}

theorem trodAll_below (hl : laidOutB P = true) {W W' : World} {sp : Nat → Bool} (hb : Below W.heap.size W W') :
    ∀ {ts : List TypeId} {vs : List Value} {ds : List (DataW H)} {ps : List MemPlace}, rowed P ts = true → DataW.TrodAll enc P W 0 (fun _ => true) true ts vs ds ps →
      (∀ x ∈ ps, x.block < W.heap.size) → (∀ x ∈ ps, sp x.block = true) → DataW.TrodAll enc P W' 0 sp true ts vs ds ps
  | [], [], [], _, _, h, _, _ => h
  | t :: ts, v :: vs, d :: ds, ps, hr, ⟨p, q, h1, h2, e⟩, hlt, hsp => by
    subst e
    simp only [rowed, List.all_cons, Bool.and_eq_true, decide_eq_true_eq] at hr
    exact ⟨p, q, Go.WideElems.Trod_stays hl hr.1.1 hr.1.2 h1 (fun x hx => hb.same (hlt x (by simp [hx]))) (fun x hx => hsp x (by simp [hx])),
      trodAll_below hl hb hr.2 h2 (fun x hx => hlt x (by simp [hx])) (fun x hx => hsp x (by simp [hx])), rfl⟩
  | [], _ :: _, _, _, _, h, _, _ => h.elim
  | [], [], _ :: _, _, _, h, _, _ => h.elim
  | _ :: _, [], _, _, _, h, _, _ => h.elim
  | _ :: _, _ :: _, [], _, _, h, _, _ => h.elim

/-- A law's row: it returned true, and nothing old has turned. -/
theorem law_post {f : Func} {s : ChangeSpec} {apart : Bool} {W W' : World} {args : Array Value} {ds gs : List (DataW H)} {before : List MemPlace} {tb : TypeId} (hl : laidOutB P = true)
    (hr : rowed P f.params.toList = true) (hres : f.resultTypes = #[tb]) (hub : P.underlying tb = some .bool) (hv : s.vars = []) (hfn : s.fn H ds = { results := [.lit (.bool true)], args := ds })
    (hW : DataW.Whole enc P f.params.toList s.vars apart W args.toList ds gs before) (hb : Below W.heap.size W W') : s.post enc P f apart true false false W args (.bool true) W' := by
  have hlt : ∀ p ∈ before, p.block < W.heap.size := fun p hp => hW.lt p hp
  have hW' := hW
  obtain ⟨p, q, hA, hV, rfl, _, _⟩ := hW'
  rw [hv] at hV
  obtain ⟨rfl, rfl⟩ := trodVars_none hV
  refine ⟨ds, [], p ++ [], [], p, [], hW, ?_, ?_, ?_, ?_, fun h => by cases h⟩
  · rw [hres, List.append_nil, hfn]
    exact trodAll_mk1 (shut_bool hub _)
  · rw [List.append_nil, hfn]
    exact trodAll_below hl hb hr hA (fun x hx => hlt x (by simpa using hx)) (fun x hx => by simpa using hlt x (by simpa using hx))
  · rw [List.append_nil, hfn, hv]
    rfl
  · exact hb.frame _

/-- Behind a law's walk. -/
theorem law_calls {f : Func} {fi : FuncId} {s : ChangeSpec} {apart : Bool} {W : World} {args : Array Value} {ds gs : List (DataW H)} {before : List MemPlace} {tb : TypeId} (hl : laidOutB P = true)
    (hr : rowed P f.params.toList = true) (hres : f.resultTypes = #[tb]) (hub : P.underlying tb = some .bool) (hv : s.vars = []) (hfn : s.fn H ds = { results := [.lit (.bool true)], args := ds })
    (hW : DataW.Whole enc P f.params.toList s.vars apart W args.toList ds gs before) (h : Calls P fi args W fun e W' => e = .returned (.bool true) ∧ Below W.heap.size W W') :
    Calls P fi args W fun e W' => ∃ v, e = .returned v ∧ s.post enc P f apart true false false W args v W' :=
  h.mono fun _ _ ⟨he, hb⟩ => ⟨_, he, law_post hl hr hres hub hv hfn hW hb⟩

/-- A slice that is read, opened as this seat's words have it. -/
theorem sl_of {α : Type} (R : Rep α) {W : World} {t e : TypeId} {n b0 : Nat} {v : Value} {y : DataW H × List MemPlace} (ht : P.underlying t = some (.slice e)) (hsz : P.cellsOf e = R.size)
    (hok : Cell.okWide P W .any b0 t v) (helem : ∀ n cs y, cs.length = R.size → DataW.trod enc P W 0 (fun _ => true) true n e cs = some y → ∃ x, R.is W cs x)
    (h : DataW.trod enc P W 0 (fun _ => true) true n t [v] = some y) : ∃ xs, Sl R W v xs := by
  rcases Go.Deep.open_slice ht h with ⟨hcs, _⟩ | ⟨a, len, cap, m, n', D, Pl, hcs, _, hl, hm, hmm, _, hi⟩
  · injection hcs with hcs
    subst hcs
    exact ⟨[], Sl.none R W⟩
  · injection hcs with hcs
    subst hcs
    simp only [if_true] at hmm
    subst hmm
    simp only [Cell.okWide, Cell.ok, ht] at hok
    obtain ⟨_, hmx, _, hspot, row, cells, hsh, _⟩ := hok
    obtain ⟨b, off, spot⟩ := a
    simp only at hspot
    subst hspot
    have hb : b < W.heap.size := by
      rcases Nat.lt_or_ge b W.heap.size with h | h
      · exact h
      · simp [World.shape?, Array.getElem?_eq_none h] at hsh
    have hx : ∀ i : Fin len, ∃ x cs, R.is W cs x ∧ At W b (off + i.val * R.size) cs := fun i => by
      obtain ⟨cs, hc, htr⟩ := hi i.val (by omega)
      obtain ⟨_, hlen, hat⟩ := World.cells?_some hc
      obtain ⟨x, hx⟩ := helem _ _ _ (by omega) htr
      refine ⟨x, cs, hx, fun j u hu => ?_⟩
      have hj : j < P.cellsOf e := by
        rcases Nat.lt_or_ge j cs.length with h | h
        · omega
        · rw [List.getElem?_eq_none h] at hu; cases hu
      have h1 := hat j hj
      rw [hu, hsz, Go.Deep.add_add] at h1
      rw [← h1]
      simp only [Addr.add]
      split
      · rename_i h0
        rw [show off + i.val * R.size + j = off by omega]
      · rw [Nat.add_assoc]
    refine ⟨List.ofFn fun i => Classical.choose (hx i), some ⟨b, off, none⟩, m, by simp, by simpa using hl, ?_, .inr ⟨b, off, rfl, hb, fun i x he => ?_⟩⟩
    · have h2 : IntKind.i64.max = 9223372036854775807 := by decide
      omega
    · have hil : i < len := by
        rcases Nat.lt_or_ge i len with h | h
        · exact h
        · rw [List.getElem?_eq_none (by simpa using h)] at he; cases he
      rw [List.getElem?_ofFn, dif_pos hil] at he
      injection he with he
      subst he
      exact Classical.choose_spec (hx ⟨i, hil⟩)

theorem cell_plain {W : World} {a : Addr} {v : Value} (h : W.cell? a = some v) : a.spot = none ∧ a.block < W.heap.size := by
  unfold World.cell? at h
  split at h
  · rename_i c _ _ hc
    refine ⟨?_, (Array.getElem?_eq_some_iff.1 hc).1⟩
    split at h
    · cases h
    · rename_i hs; simpa using hs
  · cases h

/-- The same, without a word on the slice itself: what can be read lies in plain cells. -/
theorem sl_in {α : Type} (R : Rep α) {W : World} {t e : TypeId} {n : Nat} {v : Value} {y : DataW H × List MemPlace} (ht : P.underlying t = some (.slice e)) (hsz : P.cellsOf e = R.size) (hpos : 0 < R.size)
    (helem : ∀ n cs y, cs.length = R.size → DataW.trod enc P W 0 (fun _ => true) true n e cs = some y → ∃ x, R.is W cs x)
    (h : DataW.trod enc P W 0 (fun _ => true) true n t [v] = some y) : ∃ xs, Sl R W v xs := by
  rcases Go.Deep.open_slice ht h with ⟨hcs, _⟩ | ⟨a, len, cap, m, n', D, Pl, hcs, _, hl, hm, hmm, _, hi⟩
  · injection hcs with hcs
    subst hcs
    exact ⟨[], Sl.none R W⟩
  · injection hcs with hcs
    subst hcs
    simp only [if_true] at hmm
    subst hmm
    have hm' : m ≤ 9223372036854775807 := hm
    by_cases h0 : m = 0
    · have hl0 : len = 0 := by omega
      subst h0 hl0
      exact ⟨[], some a, 0, rfl, Nat.le_refl _, by omega, .inl ⟨rfl, rfl⟩⟩
    obtain ⟨cs0, hc0, _⟩ := hi 0 (by omega)
    obtain ⟨_, hl0, hat0⟩ := World.cells?_some hc0
    have h1 := hat0 0 (by omega)
    rw [List.getElem?_eq_getElem (show 0 < cs0.length by omega)] at h1
    have ha0 : (a.add (0 * P.cellsOf e)).add 0 = a := by simp [Addr.add]
    rw [ha0] at h1
    obtain ⟨hspot, hb⟩ := cell_plain h1
    obtain ⟨b, off, spot⟩ := a
    simp only at hspot hb
    subst hspot
    clear h1 ha0 hat0 hl0 hc0
    have hx : ∀ i : Fin len, ∃ x cs, R.is W cs x ∧ At W b (off + i.val * R.size) cs := fun i => by
      obtain ⟨cs, hc, htr⟩ := hi i.val (by omega)
      obtain ⟨_, hlen, hat⟩ := World.cells?_some hc
      obtain ⟨x, hx⟩ := helem _ _ _ (by omega) htr
      refine ⟨x, cs, hx, fun j u hu => ?_⟩
      have hj : j < P.cellsOf e := by
        rcases Nat.lt_or_ge j cs.length with h | h
        · omega
        · rw [List.getElem?_eq_none h] at hu; cases hu
      have h1 := hat j hj
      rw [hu, hsz, Go.Deep.add_add] at h1
      rw [← h1]
      simp only [Addr.add]
      split
      · rename_i h0
        rw [show off + i.val * R.size + j = off by omega]
      · rw [Nat.add_assoc]
    refine ⟨List.ofFn fun i => Classical.choose (hx i), some ⟨b, off, none⟩, m, by simp, by simpa using hl, hm', .inr ⟨b, off, rfl, hb, fun i x he => ?_⟩⟩
    have hil : i < len := by
      rcases Nat.lt_or_ge i len with h | h
      · exact h
      · rw [List.getElem?_eq_none (by simpa using h)] at he; cases he
    rw [List.getElem?_ofFn, dif_pos hil] at he
    injection he with he
    subst he
    exact Classical.choose_spec (hx ⟨i, hil⟩)

/-- A field of a struct that is read. -/
theorem trod_field {W : World} {t : TypeId} {fs : Array Field} {n : Nat} {cs : List Value} {y : DataW H × List MemPlace} (ht : P.underlying t = some (.struct fs)) (h : DataW.trod enc P W 0 (fun _ => true) true n t cs = some y) (i : Nat) {f : Field} (hf : fs[i]? = some f) :
    ∃ m z, DataW.trod enc P W 0 (fun _ => true) true m f.type ((cs.drop f.offset).take (P.cellsOf f.type)) = some z := by
  obtain ⟨xs, m, _, _, _, hlen, hx⟩ := DataW.trod_struct ht h
  have h1 := hx i f hf
  have hi : i < xs.length := by rw [hlen]; exact (Array.getElem?_eq_some_iff.1 hf).1
  rw [List.getElem?_eq_getElem hi] at h1
  exact ⟨m, _, h1⟩
end
end Go.Proofs.YtcomfhigbjkoeaaGreatDoor
