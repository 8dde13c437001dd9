/-
  No statement is proved here: numbers and faults among the arguments, opened. Conditions: none.
-/
import Derived.Test.YtcomfhigbjkoeaaDoorAuZ
import Derived.Test.YtcomfhigbjkoeaaDoorLibR
import Derived.Test.YtcomfhigbjkoeaaDoorRows
import Derived.Deep.Strs
namespace Go.Proofs.YtcomfhigbjkoeaaDoor
open Go.RowKit Go.ChangeShapes Go.WideShapes Go.ChangeAt Go.Joins

theorem Tryd.own : ownKnob Tryd.prog.godebug = none := by kernel_rfl
theorem Tryd.laidOut : laidOutB Tryd.prog = true := by kernel_rfl

theorem bd_of_wf {x : Int} (h : (Lit.int .i64 x).wf = true) : Bd x := by
  simp [Lit.wf, IntKind.min, IntKind.max, IntKind.signed, IntKind.bits] at h
  exact ⟨by omega, by omega⟩
theorem u8_of_wf {x : Int} (h : (Lit.int .u8 x).wf = true) : 0 ≤ x ∧ x ≤ 255 := by
  simp [Lit.wf, IntKind.min, IntKind.max, IntKind.signed, IntKind.bits] at h
  exact ⟨by omega, by omega⟩
theorem u16_of_wf {x : Int} (h : (Lit.int .u16 x).wf = true) : 0 ≤ x ∧ x ≤ 65535 := by
  simp [Lit.wf, IntKind.min, IntKind.max, IntKind.signed, IntKind.bits] at h
  exact ⟨by omega, by omega⟩
theorem u32_of_wf {x : Int} (h : (Lit.int .u32 x).wf = true) : U32 x := by
  simp [Lit.wf, IntKind.min, IntKind.max, IntKind.signed, IntKind.bits] at h
  exact ⟨by omega, by omega⟩
theorem u64_of_wf {x : Int} (h : (Lit.int .u64 x).wf = true) : U64 x := by
  simp [Lit.wf, IntKind.min, IntKind.max, IntKind.signed, IntKind.bits] at h
  exact ⟨by omega, by omega⟩

theorem row_at {P : Program} {W : World} {b0 : Nat} {t : TypeId} {cs : Array Value} {ts : List TypeId} (ht : P.cellTypes P.depth t = some ts) (h : Row.okWide P W .any b0 t cs) (i : Nat) (hi : i < ts.length) {v : Value} (hv : cs[i]? = some v) {u : TypeId} (hu : ts[i]? = some u) :
    Cell.okWide P W .any b0 u v := by
  obtain ⟨ts', h1, _, h2⟩ := h
  obtain rfl : ts = ts' := Option.some.inj (ht.symm.trans h1)
  obtain ⟨u', h3, h4⟩ := h2 i v hv
  rw [Nat.mod_eq_of_lt hi, hu] at h3
  injection h3 with h3
  subst h3
  exact h4

section
variable {H : Type} {enc : TypeId × Value → H}

set_option maxRecDepth 20000 in
theorem faults_open {W : World} {b0 : Nat} {v : Value} {d : DataW H} {p : List MemPlace} (hok : Value.okWide Tryd.prog W .any b0 28 v) (h : DataW.Trod enc Tryd.prog W 0 (fun _ => true) true 28 v d p) :
    ∃ xs : List (Int × Int), Sl faR W v xs := by
  have hok' := hok
  simp only [Value.okWide, Tryd.underlying28] at hok'
  obtain ⟨a, len, cap, rfl⟩ := okWide_slice Tryd.underlying28 hok
  obtain ⟨fuel, h⟩ := h
  refine sl_of faR Tryd.underlying28 (by kernel_rfl) hok' (fun n cs y hlen htr => ?_) (n := fuel) (y := (d, p)) (by simpa [Value.cells] using h)
  match cs, hlen with
  | [c0, c1], _ =>
    obtain ⟨z0, z1, m, _, _, g0, g1⟩ := trod_struct2 Tryd.underlying52 htr
    obtain ⟨x1, h1, _, w1⟩ := DataW.trod_int Tryd.underlying3 g0
    obtain ⟨x2, h2, _, w2⟩ := DataW.trod_int Tryd.underlying3 g1
    have hc : Tryd.prog.cellsOf 3 = 1 := by kernel_rfl
    simp [hc] at h1 h2
    subst h1 h2
    exact ⟨(x1, x2), rfl, bd_of_wf w1, bd_of_wf w2⟩

set_option maxRecDepth 20000 in
theorem num_open {k : IntKind} {t : TypeId} (ht : Tryd.prog.underlying t = some (.int k)) {W : World} {b0 : Nat} {v : Value} {d : DataW H} {p : List MemPlace} (hok : Value.okWide Tryd.prog W .any b0 t v) (h : DataW.Trod enc Tryd.prog W 0 (fun _ => true) true t v d p) :
    ∃ x : Int, v = .int k x ∧ (Lit.int k x).wf = true := by
  simp only [Value.okWide, ht, Cell.okWide, Cell.ok] at hok
  cases v <;> simp at hok
  rename_i k' x
  obtain ⟨fuel, h⟩ := h
  obtain ⟨x', e, _, w⟩ := DataW.trod_int ht h
  simp [Value.cells] at e
  obtain ⟨rfl, rfl⟩ := e
  exact ⟨_, rfl, w⟩
end
end Go.Proofs.YtcomfhigbjkoeaaDoor
