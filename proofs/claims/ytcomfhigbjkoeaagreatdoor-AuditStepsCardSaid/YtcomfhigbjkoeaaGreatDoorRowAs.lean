/-
  No statement is proved here: numbers and faults among the arguments, opened. Conditions: none.
  No statement is proved here: venues and records among the arguments, opened. Conditions: none.
  No statement is proved here: what is known, and a step, among the arguments, opened. Conditions: none.
  The statement AuditStepsCardSaid, proved: the row over the walk of the law, and the tied card over the row. Conditions: none.
-/
import Derived.Test.YtcomfhigbjkoeaaGreatDoorAuZ
import Derived.Test.YtcomfhigbjkoeaaGreatDoorLibR
import Derived.Test.YtcomfhigbjkoeaaGreatDoorRows
import Derived.Deep.Strs
import Derived.Test.YtcomfhigbjkoeaaGreatDoorLawAs
import Derived.Test.YtcomfhigbjkoeaaGreatDoorTie
import Derived.Test.YtcomfhigbjkoeaaGreatDoorCards
import Derived.LaidMore
import Derived.Lay
import Derived.SevenTiedAt
import Derived.Stop.Joined
namespace Go.Proofs.YtcomfhigbjkoeaaGreatDoor
open Go.RowKit Go.ChangeShapes Go.WideShapes Go.ChangeAt Go.Joins

theorem Tryz.own : ownKnob Tryz.prog.godebug = none := by kernel_rfl
theorem Tryz.laidOut : laidOutB Tryz.prog = true := by kernel_rfl

theorem bd_of_wf {x : Int} (h : (Lit.int .i64 x).wf = true) : Bd x := by
  simp [Lit.wf, IntKind.min, IntKind.max, IntKind.signed, IntKind.bits] at h
  exact ⟨by omega, by omega⟩
theorem u8_of_wf {x : Int} (h : (Lit.int .u8 x).wf = true) : 0 ≤ x ∧ x ≤ 255 := by
  simp [Lit.wf, IntKind.min, IntKind.max, IntKind.signed, IntKind.bits] at h
  exact ⟨by omega, by omega⟩
theorem u16_of_wf {x : Int} (h : (Lit.int .u16 x).wf = true) : 0 ≤ x ∧ x ≤ 65535 := by
  simp [Lit.wf, IntKind.min, IntKind.max, IntKind.signed, IntKind.bits] at h
  exact ⟨by omega, by omega⟩
theorem u32_of_wf {x : Int} (h : (Lit.int .u32 x).wf = true) : U32 x := by
  simp [Lit.wf, IntKind.min, IntKind.max, IntKind.signed, IntKind.bits] at h
  exact ⟨by omega, by omega⟩
theorem u64_of_wf {x : Int} (h : (Lit.int .u64 x).wf = true) : U64 x := by
  simp [Lit.wf, IntKind.min, IntKind.max, IntKind.signed, IntKind.bits] at h
  exact ⟨by omega, by omega⟩

theorem row_at {P : Program} {W : World} {b0 : Nat} {t : TypeId} {cs : Array Value} {ts : List TypeId} (ht : P.cellTypes P.depth t = some ts) (h : Row.okWide P W .any b0 t cs) (i : Nat) (hi : i < ts.length) {v : Value} (hv : cs[i]? = some v) {u : TypeId} (hu : ts[i]? = some u) :
    Cell.okWide P W .any b0 u v := by
  obtain ⟨ts', h1, _, h2⟩ := h
  obtain rfl : ts = ts' := Option.some.inj (ht.symm.trans h1)
  obtain ⟨u', h3, h4⟩ := h2 i v hv
  rw [Nat.mod_eq_of_lt hi, hu] at h3
  injection h3 with h3
  subst h3
  exact h4

section
variable {H : Type} {enc : TypeId × Value → H}

set_option maxRecDepth 20000 in
theorem faults_open {W : World} {b0 : Nat} {v : Value} {d : DataW H} {p : List MemPlace} (hok : Value.okWide Tryz.prog W .any b0 28 v) (h : DataW.Trod enc Tryz.prog W 0 (fun _ => true) true 28 v d p) :
    ∃ xs : List (Int × Int), Sl faR W v xs := by
  have hok' := hok
  simp only [Value.okWide, Tryz.underlying28] at hok'
  obtain ⟨a, len, cap, rfl⟩ := okWide_slice Tryz.underlying28 hok
  obtain ⟨fuel, h⟩ := h
  refine sl_of faR Tryz.underlying28 (by kernel_rfl) hok' (fun n cs y hlen htr => ?_) (n := fuel) (y := (d, p)) (by simpa [Value.cells] using h)
  match cs, hlen with
  | [c0, c1], _ =>
    obtain ⟨z0, z1, m, _, _, g0, g1⟩ := trod_struct2 Tryz.underlying63 htr
    obtain ⟨x1, h1, _, w1⟩ := DataW.trod_int Tryz.underlying3 g0
    obtain ⟨x2, h2, _, w2⟩ := DataW.trod_int Tryz.underlying3 g1
    have hc : Tryz.prog.cellsOf 3 = 1 := by kernel_rfl
    simp [hc] at h1 h2
    subst h1 h2
    exact ⟨(x1, x2), rfl, bd_of_wf w1, bd_of_wf w2⟩

set_option maxRecDepth 20000 in
theorem num_open {k : IntKind} {t : TypeId} (ht : Tryz.prog.underlying t = some (.int k)) {W : World} {b0 : Nat} {v : Value} {d : DataW H} {p : List MemPlace} (hok : Value.okWide Tryz.prog W .any b0 t v) (h : DataW.Trod enc Tryz.prog W 0 (fun _ => true) true t v d p) :
    ∃ x : Int, v = .int k x ∧ (Lit.int k x).wf = true := by
  simp only [Value.okWide, ht, Cell.okWide, Cell.ok] at hok
  cases v <;> simp at hok
  rename_i k' x
  obtain ⟨fuel, h⟩ := h
  obtain ⟨x', e, _, w⟩ := DataW.trod_int ht h
  simp [Value.cells] at e
  obtain ⟨rfl, rfl⟩ := e
  exact ⟨_, rfl, w⟩
end
end Go.Proofs.YtcomfhigbjkoeaaGreatDoor

namespace Go.Proofs.YtcomfhigbjkoeaaGreatDoor
open Go.RowKit Go.ChangeShapes Go.WideShapes Go.ChangeAt Go.Joins

section
variable {H : Type} {enc : TypeId × Value → H} {P : Program}

/-- A field of a struct that is read. -/
theorem field_in {W : World} {t : TypeId} {fs : Array Field} {n : Nat} {cs : List Value} {y : DataW H × List MemPlace} (ht : P.underlying t = some (.struct fs)) (h : DataW.trod enc P W 0 (fun _ => true) true n t cs = some y) (i : Nat) (u : TypeId) (o k : Nat) (hf : (fs[i]?).map (fun f => (f.type, f.offset)) = some (u, o)) (hk : P.cellsOf u = k) :
    ∃ m z, DataW.trod enc P W 0 (fun _ => true) true m u ((cs.drop o).take k) = some z := by
  cases hi : fs[i]? with
  | none => rw [hi] at hf; cases hf
  | some f =>
    rw [hi] at hf
    simp only [Option.map_some, Option.some.injEq, Prod.mk.injEq] at hf
    obtain ⟨rfl, rfl⟩ := hf
    subst hk
    exact trod_field ht h i hi
end

section
variable {H : Type} {enc : TypeId × Value → H}

theorem u_int {W : World} {n : Nat} {k : IntKind} {t : TypeId} {v : Value} {y : DataW H × List MemPlace} (ht : Tryz.prog.underlying t = some (.int k)) (h : DataW.trod enc Tryz.prog W 0 (fun _ => true) true n t [v] = some y) : ∃ x, v = .int k x ∧ (Lit.int k x).wf = true := by
  obtain ⟨x, e, _, hw⟩ := DataW.trod_int ht h
  simp at e
  exact ⟨x, e, hw⟩

set_option maxRecDepth 20000 in
theorem ints_in {W : World} {n : Nat} {v : Value} {y : DataW H × List MemPlace} (h : DataW.trod enc Tryz.prog W 0 (fun _ => true) true n 35 [v] = some y) : ∃ xs, Sl intR W v xs := by
  refine sl_in intR Tryz.underlying35 (by kernel_rfl) (by decide) (fun n cs y hlen htr => ?_) h
  match cs, hlen with
  | [c0], _ =>
    obtain ⟨x, rfl, hw⟩ := u_int Tryz.underlying3 htr
    exact ⟨x, rfl, bd_of_wf hw⟩

set_option maxRecDepth 20000 in
theorem secs_in {W : World} {n : Nat} {v : Value} {y : DataW H × List MemPlace} (h : DataW.trod enc Tryz.prog W 0 (fun _ => true) true n 22 [v] = some y) : ∃ xs, Sl secR W v xs := by
  refine sl_in secR Tryz.underlying22 (by kernel_rfl) (by decide) (fun n cs y hlen htr => ?_) h
  match cs, hlen with
  | [c0, c1, c2], _ =>
    obtain ⟨_, _, h0⟩ := field_in Tryz.underlying57 htr 0 9 0 1 rfl (by kernel_rfl)
    obtain ⟨_, _, h1⟩ := field_in Tryz.underlying57 htr 1 35 1 1 rfl (by kernel_rfl)
    obtain ⟨_, _, h2⟩ := field_in Tryz.underlying57 htr 2 3 2 1 rfl (by kernel_rfl)
    simp only [List.drop_succ_cons, List.drop_zero, List.take_succ_cons, List.take_zero] at h0 h1 h2
    obtain ⟨s, e, _, hsz⟩ := DataW.trod_string Tryz.underlying9 h0
    simp at e
    subst e
    obtain ⟨rows, hr⟩ := ints_in h1
    obtain ⟨x, rfl, hw⟩ := u_int Tryz.underlying3 h2
    obtain ⟨A, c, rfl, _, _, hr⟩ := hr.open
    exact ⟨⟨s, rows, x⟩, A, c, rfl, hr, bd_of_wf hw, hsz⟩

set_option maxRecDepth 20000 in
/-- A venue among the arguments. -/
theorem ve_open {W : World} {b0 : Nat} {v : Value} {d : DataW H} {p : List MemPlace} (hok : Value.okWide Tryz.prog W .any b0 24 v) (h : DataW.Trod enc Tryz.prog W 0 (fun _ => true) true 24 v d p) :
    ∃ x : Ve, ∃ V vc, v = .agg #[.int .i64 x.shards, .int .i64 x.ttl, .int .i64 x.session, .slice V x.secs.length vc] ∧ Sl secR W (.slice V x.secs.length vc) x.secs ∧ Bd x.shards ∧ Bd x.ttl ∧ Bd x.session := by
  obtain ⟨v0, v1, v2, v3, y0, y1, y2, y3, n, rfl, _, _, h0, h1, h2, h3⟩ := open_agg4 Tryz.underlying24 (by kernel_rfl) (by kernel_rfl) hok h
  obtain ⟨x0, rfl, w0⟩ := u_int Tryz.underlying3 h0
  obtain ⟨x1, rfl, w1⟩ := u_int Tryz.underlying2 h1
  obtain ⟨x2, rfl, w2⟩ := u_int Tryz.underlying2 h2
  obtain ⟨xs, hs⟩ := secs_in h3
  obtain ⟨A, c, rfl, _, _, hs⟩ := hs.open
  exact ⟨⟨x0, x1, x2, xs⟩, A, c, rfl, hs, bd_of_wf w0, bd_of_wf w1, bd_of_wf w2⟩

set_option maxRecDepth 20000 in
theorem tk_in {W : World} {n : Nat} {c0 c1 c2 c3 : Value} {y : DataW H × List MemPlace} (h : DataW.trod enc Tryz.prog W 0 (fun _ => true) true n 41 [c0, c1, c2, c3] = some y) : ∃ t : Tk, [c0, c1, c2, c3] = [.int .u32 t.seat, .int .u32 t.owner, .int .u64 t.serial, .int .u64 t.epoch] ∧ TkOk t := by
  obtain ⟨_, _, h0⟩ := field_in Tryz.underlying41 h 0 38 0 1 rfl (by kernel_rfl)
  obtain ⟨_, _, h1⟩ := field_in Tryz.underlying41 h 1 38 1 1 rfl (by kernel_rfl)
  obtain ⟨_, _, h2⟩ := field_in Tryz.underlying41 h 2 39 2 1 rfl (by kernel_rfl)
  obtain ⟨_, _, h3⟩ := field_in Tryz.underlying41 h 3 39 3 1 rfl (by kernel_rfl)
  simp only [List.drop_succ_cons, List.drop_zero, List.take_succ_cons, List.take_zero] at h0 h1 h2 h3
  obtain ⟨x0, rfl, w0⟩ := u_int Tryz.underlying38 h0
  obtain ⟨x1, rfl, w1⟩ := u_int Tryz.underlying38 h1
  obtain ⟨x2, rfl, w2⟩ := u_int Tryz.underlying39 h2
  obtain ⟨x3, rfl, w3⟩ := u_int Tryz.underlying39 h3
  exact ⟨⟨x0, x1, x2, x3⟩, rfl, u32_of_wf w0, u32_of_wf w1, u64_of_wf w2, u64_of_wf w3⟩

set_option maxRecDepth 20000 in
theorem op_in {W : World} {n : Nat} {c0 c1 c2 c3 c4 c5 c6 c7 c8 c9 c10 c11 : Value} {y : DataW H × List MemPlace} (h : DataW.trod enc Tryz.prog W 0 (fun _ => true) true n 43 [c0, c1, c2, c3, c4, c5, c6, c7, c8, c9, c10, c11] = some y) : ∃ o : MOp, [c0, c1, c2, c3, c4, c5, c6, c7, c8, c9, c10, c11] = opCells o ∧ OpOk o := by
  obtain ⟨_, _, h0⟩ := field_in Tryz.underlying43 h 0 3 0 1 rfl (by kernel_rfl)
  obtain ⟨_, _, h1⟩ := field_in Tryz.underlying43 h 1 38 1 1 rfl (by kernel_rfl)
  obtain ⟨_, _, h2⟩ := field_in Tryz.underlying43 h 2 2 2 1 rfl (by kernel_rfl)
  obtain ⟨_, _, h3⟩ := field_in Tryz.underlying43 h 3 3 3 1 rfl (by kernel_rfl)
  obtain ⟨_, _, h4⟩ := field_in Tryz.underlying43 h 4 3 4 1 rfl (by kernel_rfl)
  obtain ⟨_, _, h5⟩ := field_in Tryz.underlying43 h 5 3 5 1 rfl (by kernel_rfl)
  obtain ⟨_, _, h6⟩ := field_in Tryz.underlying43 h 6 38 6 1 rfl (by kernel_rfl)
  obtain ⟨_, _, h7⟩ := field_in Tryz.underlying43 h 7 41 7 4 rfl (by kernel_rfl)
  obtain ⟨_, _, h8⟩ := field_in Tryz.underlying43 h 8 2 11 1 rfl (by kernel_rfl)
  simp only [List.drop_succ_cons, List.drop_zero, List.take_succ_cons, List.take_zero] at h0 h1 h2 h3 h4 h5 h6 h7 h8
  obtain ⟨x0, rfl, w0⟩ := u_int Tryz.underlying3 h0
  obtain ⟨x1, rfl, w1⟩ := u_int Tryz.underlying38 h1
  obtain ⟨x2, rfl, w2⟩ := u_int Tryz.underlying2 h2
  obtain ⟨x3, rfl, w3⟩ := u_int Tryz.underlying3 h3
  obtain ⟨x4, rfl, w4⟩ := u_int Tryz.underlying3 h4
  obtain ⟨x5, rfl, w5⟩ := u_int Tryz.underlying3 h5
  obtain ⟨x6, rfl, w6⟩ := u_int Tryz.underlying38 h6
  obtain ⟨t, he, ht⟩ := tk_in h7
  simp only [List.cons.injEq, and_true] at he
  obtain ⟨rfl, rfl, rfl, rfl⟩ := he
  obtain ⟨x8, rfl, w8⟩ := u_int Tryz.underlying2 h8
  exact ⟨⟨x0, x1, x2, x3, x4, x5, x6, t, x8⟩, rfl, bd_of_wf w0, u32_of_wf w1, bd_of_wf w2, bd_of_wf w3, bd_of_wf w4, bd_of_wf w5, u32_of_wf w6, ht, bd_of_wf w8⟩

set_option maxRecDepth 20000 in
theorem rp_in {W : World} {n : Nat} {c0 c1 c2 c3 c4 c5 c6 c7 c8 : Value} {y : DataW H × List MemPlace} (h : DataW.trod enc Tryz.prog W 0 (fun _ => true) true n 45 [c0, c1, c2, c3, c4, c5, c6, c7, c8] = some y) : ∃ o : MRp, [c0, c1, c2, c3, c4, c5, c6, c7, c8] = rpCells o ∧ RpOk o := by
  obtain ⟨_, _, h0⟩ := field_in Tryz.underlying45 h 0 29 0 1 rfl (by kernel_rfl)
  obtain ⟨_, _, h1⟩ := field_in Tryz.underlying45 h 1 3 1 1 rfl (by kernel_rfl)
  obtain ⟨_, _, h2⟩ := field_in Tryz.underlying45 h 2 3 2 1 rfl (by kernel_rfl)
  obtain ⟨_, _, h3⟩ := field_in Tryz.underlying45 h 3 2 3 1 rfl (by kernel_rfl)
  obtain ⟨_, _, h4⟩ := field_in Tryz.underlying45 h 4 41 4 4 rfl (by kernel_rfl)
  obtain ⟨_, _, h5⟩ := field_in Tryz.underlying45 h 5 3 8 1 rfl (by kernel_rfl)
  simp only [List.drop_succ_cons, List.drop_zero, List.take_succ_cons, List.take_zero] at h0 h1 h2 h3 h4 h5
  obtain ⟨x0, rfl, w0⟩ := u_int Tryz.underlying29 h0
  obtain ⟨x1, rfl, w1⟩ := u_int Tryz.underlying3 h1
  obtain ⟨x2, rfl, w2⟩ := u_int Tryz.underlying3 h2
  obtain ⟨x3, rfl, w3⟩ := u_int Tryz.underlying2 h3
  obtain ⟨t, he, ht⟩ := tk_in h4
  simp only [List.cons.injEq, and_true] at he
  obtain ⟨rfl, rfl, rfl, rfl⟩ := he
  obtain ⟨x5, rfl, w5⟩ := u_int Tryz.underlying3 h5
  exact ⟨⟨x0, x1, x2, x3, t, x5⟩, rfl, bd_of_wf w0, bd_of_wf w1, bd_of_wf w2, bd_of_wf w3, ht, bd_of_wf w5⟩

set_option maxRecDepth 20000 in
/-- A record among the arguments. -/
theorem steps_open {W : World} {b0 : Nat} {v : Value} {d : DataW H} {p : List MemPlace} (hok : Value.okWide Tryz.prog W .any b0 25 v) (h : DataW.Trod enc Tryz.prog W 0 (fun _ => true) true 25 v d p) : ∃ xs : List (MOp × MRp), Sl stR W v xs := by
  obtain ⟨fuel, h⟩ := h
  obtain ⟨A, l, c, rfl⟩ := okWide_slice Tryz.underlying25 hok
  refine sl_in stR Tryz.underlying25 (by kernel_rfl) (by decide) (fun n cs y hlen htr => ?_) (n := fuel) (y := (d, p)) (by simpa [Value.cells] using h)
  match cs, hlen with
  | [c0, c1, c2, c3, c4, c5, c6, c7, c8, c9, c10, c11, c12, c13, c14, c15, c16, c17, c18, c19, c20], _ =>
    obtain ⟨_, _, h0⟩ := field_in Tryz.underlying47 htr 0 43 0 12 rfl (by kernel_rfl)
    obtain ⟨_, _, h1⟩ := field_in Tryz.underlying47 htr 1 45 12 9 rfl (by kernel_rfl)
    simp only [List.drop_succ_cons, List.drop_zero, List.take_succ_cons, List.take_zero] at h0 h1
    obtain ⟨o, he, ho⟩ := op_in h0
    obtain ⟨r, he2, hr⟩ := rp_in h1
    have e : [c0, c1, c2, c3, c4, c5, c6, c7, c8, c9, c10, c11, c12, c13, c14, c15, c16, c17, c18, c19, c20] = opCells o ++ rpCells r := by rw [← he, ← he2]; rfl
    exact ⟨(o, r), e, ho, hr⟩

end
end Go.Proofs.YtcomfhigbjkoeaaGreatDoor

namespace Go.Proofs.YtcomfhigbjkoeaaGreatDoor
open Go.RowKit Go.ChangeShapes Go.WideShapes Go.ChangeAt Go.Joins

section
variable {H : Type} {enc : TypeId × Value → H}

theorem u_bool {W : World} {n : Nat} {t : TypeId} {v : Value} {y : DataW H × List MemPlace} (ht : Tryz.prog.underlying t = some .bool) (h : DataW.trod enc Tryz.prog W 0 (fun _ => true) true n t [v] = some y) : ∃ b, v = .bool b := by
  obtain ⟨b, e, _⟩ := DataW.trod_bool ht h
  simp at e
  exact ⟨b, e⟩

set_option maxRecDepth 200000 in
theorem seats_in {W : World} {n : Nat} {v : Value} {y : DataW H × List MemPlace} (h : DataW.trod enc Tryz.prog W 0 (fun _ => true) true n 34 [v] = some y) : ∃ xs, Sl seR W v xs := by
  refine sl_in seR Tryz.underlying34 (by kernel_rfl) (by decide) (fun n cs y hlen htr => ?_) h
  match cs, hlen with
  | [c0, c1, c2, c3, c4, c5], _ =>
    obtain ⟨_, _, h0⟩ := field_in Tryz.underlying75 htr 0 4 0 1 rfl (by kernel_rfl)
    obtain ⟨_, _, h1⟩ := field_in Tryz.underlying75 htr 1 4 1 1 rfl (by kernel_rfl)
    obtain ⟨_, _, h2⟩ := field_in Tryz.underlying75 htr 2 38 2 1 rfl (by kernel_rfl)
    obtain ⟨_, _, h3⟩ := field_in Tryz.underlying75 htr 3 2 3 1 rfl (by kernel_rfl)
    obtain ⟨_, _, h4⟩ := field_in Tryz.underlying75 htr 4 39 4 1 rfl (by kernel_rfl)
    obtain ⟨_, _, h5⟩ := field_in Tryz.underlying75 htr 5 39 5 1 rfl (by kernel_rfl)
    simp only [List.drop_succ_cons, List.drop_zero, List.take_succ_cons, List.take_zero] at h0 h1 h2 h3 h4 h5
    obtain ⟨x0, rfl⟩ := u_bool Tryz.underlying4 h0
    obtain ⟨x1, rfl⟩ := u_bool Tryz.underlying4 h1
    obtain ⟨x2, rfl, w2⟩ := u_int Tryz.underlying38 h2
    obtain ⟨x3, rfl, w3⟩ := u_int Tryz.underlying2 h3
    obtain ⟨x4, rfl, w4⟩ := u_int Tryz.underlying39 h4
    obtain ⟨x5, rfl, w5⟩ := u_int Tryz.underlying39 h5
    exact ⟨⟨x0, x1, x2, x3, x4, x5⟩, rfl, u32_of_wf w2, bd_of_wf w3, u64_of_wf w4, u64_of_wf w5⟩

set_option maxRecDepth 20000 in
theorem agg_in {W : World} {b0 : Nat} {t : TypeId} {fs : Array Field} {k : Nat} {v : Value} {d : DataW H} {p : List MemPlace} (ht : Tryz.prog.underlying t = some (.struct fs)) (hk : Tryz.prog.cellsOf t = k) (hok : Value.okWide Tryz.prog W .any b0 t v) (h : DataW.Trod enc Tryz.prog W 0 (fun _ => true) true t v d p) :
    ∃ l : List Value, v = .agg l.toArray ∧ l.length = k ∧ ∃ n, DataW.trod enc Tryz.prog W 0 (fun _ => true) true n t l = some (d, p) := by
  obtain ⟨cs, rfl, hsz⟩ := okWide_struct ht hok
  obtain ⟨fuel, h⟩ := h
  refine ⟨cs.toList, by simp, by simp [hsz, hk], fuel, ?_⟩
  simpa [Value.cells] using h

set_option maxRecDepth 200000 in
/-- A step among the arguments. -/
theorem step_open {W : World} {b0 : Nat} {v : Value} {d : DataW H} {p : List MemPlace} (hok : Value.okWide Tryz.prog W .any b0 47 v) (h : DataW.Trod enc Tryz.prog W 0 (fun _ => true) true 47 v d p) :
    ∃ op rp, v = stV op rp ∧ OpOk op ∧ RpOk rp := by
  obtain ⟨cs, rfl, hlen, n, htr⟩ := agg_in Tryz.underlying47 (k := 21) (by kernel_rfl) hok h
  match cs, hlen with
  | [c0, c1, c2, c3, c4, c5, c6, c7, c8, c9, c10, c11, c12, c13, c14, c15, c16, c17, c18, c19, c20], _ =>
    obtain ⟨_, _, h0⟩ := field_in Tryz.underlying47 htr 0 43 0 12 rfl (by kernel_rfl)
    obtain ⟨_, _, h1⟩ := field_in Tryz.underlying47 htr 1 45 12 9 rfl (by kernel_rfl)
    simp only [List.drop_succ_cons, List.drop_zero, List.take_succ_cons, List.take_zero] at h0 h1
    obtain ⟨o, he, ho⟩ := op_in h0
    obtain ⟨r, he2, hr⟩ := rp_in h1
    have e : [c0, c1, c2, c3, c4, c5, c6, c7, c8, c9, c10, c11, c12, c13, c14, c15, c16, c17, c18, c19, c20] = opCells o ++ rpCells r := by rw [← he, ← he2]; rfl
    exact ⟨o, r, by rw [e]; rfl, ho, hr⟩

set_option maxRecDepth 200000 in
/-- What is known, among the arguments. -/
theorem au_open {W : World} {b0 : Nat} {v : Value} {d : DataW H} {p : List MemPlace} (hok : Value.okWide Tryz.prog W .any b0 37 v) (h : DataW.Trod enc Tryz.prog W 0 (fun _ => true) true 37 v d p) :
    ∃ s F, v = auV F s ∧ IsAu W F s := by
  obtain ⟨cs, rfl, hlen, n, htr⟩ := agg_in Tryz.underlying37 (k := 7) (by kernel_rfl) hok h
  match cs, hlen with
  | [c0, c1, c2, c3, c4, c5, c6], _ =>
    obtain ⟨_, _, h0⟩ := field_in Tryz.underlying37 htr 0 24 0 4 rfl (by kernel_rfl)
    obtain ⟨_, _, h1⟩ := field_in Tryz.underlying37 htr 1 2 4 1 rfl (by kernel_rfl)
    obtain ⟨_, _, h2⟩ := field_in Tryz.underlying37 htr 2 34 5 1 rfl (by kernel_rfl)
    obtain ⟨_, _, h3⟩ := field_in Tryz.underlying37 htr 3 35 6 1 rfl (by kernel_rfl)
    simp only [List.drop_succ_cons, List.drop_zero, List.take_succ_cons, List.take_zero] at h0 h1 h2 h3
    obtain ⟨_, _, g0⟩ := field_in Tryz.underlying24 h0 0 3 0 1 rfl (by kernel_rfl)
    obtain ⟨_, _, g1⟩ := field_in Tryz.underlying24 h0 1 2 1 1 rfl (by kernel_rfl)
    obtain ⟨_, _, g2⟩ := field_in Tryz.underlying24 h0 2 2 2 1 rfl (by kernel_rfl)
    obtain ⟨_, _, g3⟩ := field_in Tryz.underlying24 h0 3 22 3 1 rfl (by kernel_rfl)
    simp only [List.drop_succ_cons, List.drop_zero, List.take_succ_cons, List.take_zero] at g0 g1 g2 g3
    obtain ⟨x0, rfl, w0⟩ := u_int Tryz.underlying3 g0
    obtain ⟨x1, rfl, w1⟩ := u_int Tryz.underlying2 g1
    obtain ⟨x2, rfl, w2⟩ := u_int Tryz.underlying2 g2
    obtain ⟨xs, hx⟩ := secs_in g3
    obtain ⟨V, vc, rfl, _, _, hx⟩ := hx.open
    obtain ⟨x4, rfl, w4⟩ := u_int Tryz.underlying2 h1
    obtain ⟨ys, hy⟩ := seats_in h2
    obtain ⟨A, ac, rfl, _, _, hy⟩ := hy.open
    obtain ⟨zs, hz⟩ := ints_in h3
    obtain ⟨B, bc, rfl, _, _, hz⟩ := hz.open
    exact ⟨⟨⟨x0, x1, x2, xs⟩, x4, ys, zs⟩, ⟨V, vc, A, ac, B, bc⟩, rfl, hx, hy, hz, ⟨bd_of_wf w0, bd_of_wf w1, bd_of_wf w2⟩, bd_of_wf w4⟩
end
end Go.Proofs.YtcomfhigbjkoeaaGreatDoor

namespace Go.Proofs.YtcomfhigbjkoeaaGreatDoor
open Go.ChangeShapes Go.WideShapes Go.ChangeAt Go.RowKit

set_option maxRecDepth 100000 in
theorem auditSteps_lifted (os : Os) (started : os.Started) (H : Type) (enc : TypeId × Value → H) :
    ReturnsInHanded {} Tryz.checked os 4 .any (fun w args => (Rows.auditStepsSpec.pre enc Tryz.prog Tryz.f4 Rows.auditStepsRow.domain false w args ∧ laidMetH Tryz.prog Rows.auditStepsRow.laid w) ∧ sizedMet enc Tryz.prog Tryz.f4 (OpenSpec.ofChange Rows.auditStepsSpec) false w args)
      (Rows.auditStepsSpec.post enc Tryz.prog Tryz.f4 false true false false) := by
  refine returnsInHanded_of_change_and (C := Tryz.checked) (X := fun w _ => laidMetH Tryz.prog Rows.auditStepsRow.laid w) (fun _ _ _ hh h => h.of_heap hh) Tryz.own started (by kernel_rfl) Tryz.func4
    (ChangeSpec.witness_shaped (enc := enc) (C := Tryz.checked) (os := os) (X := fun w _ => laidMetH Tryz.prog Rows.auditStepsRow.laid w) false (World.laidAll Tryz.prog os Rows.auditStepsRow.laid) #[.agg #[.int .i64 0, .int .i64 0, .int .i64 0, .slice none 0 0, .int .i64 0, .slice none 0 0, .slice none 0 0], .agg #[.int .i64 0, .int .u32 0, .int .i64 0, .int .i64 0, .int .i64 0, .int .i64 0, .int .u32 0, .int .u32 0, .int .u32 0, .int .u64 0, .int .u64 0, .int .i64 0, .int .i64 0, .int .i64 0, .int .i64 0, .int .i64 0, .int .u32 0, .int .u32 0, .int .u64 0, .int .u64 0, .int .i64 0]] 8 (World.laidAll_os _ _ _)
      (World.shaped_of_ZipB (by kernel_rfl) (by kernel_rfl)) (by kernel_rfl) (by kernel_rfl) (by kernel_rfl)
      (by rw [MakeChecks.laidMetH_plain _ _ _ (by kernel_rfl)]; exact laidMet_laidAll _ (by kernel_rfl) (by kernel_rfl))) ?_
  intro W base args ds gs before hval0 hW _ _ _ _
  have hval : ∀ (j : Nat) t v, Tryz.f4.params[j]? = some t → args[j]? = some v → Value.okWide Tryz.prog W .any base t v := hval0
  clear hval0
  have hW' := hW
  obtain ⟨p, q, hA0, _, _, _, _⟩ := hW'
  have hA : DataW.TrodAll enc Tryz.prog W 0 (fun _ => true) true Tryz.f4.params.toList args.toList ds p := hA0
  rw [Tryz.params4] at hA hval
  obtain ⟨v0, v1, d0, d1, p0, p1, rfl, rfl, rfl, h0, h1⟩ := trodAll_two hA
  obtain ⟨s, F, rfl, hR⟩ := au_open (hval 0 _ _ rfl rfl) h0
  obtain ⟨op, rp, rfl, ho, hr⟩ := step_open (hval 1 _ _ rfl rfl) h1
  exact law_calls Tryz.laidOut (by kernel_rfl) (by kernel_rfl) Tryz.underlying4 rfl rfl hW (lawSteps_any hR ho hr)

theorem auditSteps_row : Rows.AuditStepsSaid :=
  OpenClaim.holds_of_wide 4 Tryz.f4 rfl rfl rfl rfl rfl rfl rfl ⟨rfl, rfl, rfl, rfl, rfl⟩ rfl rfl rfl rfl rfl (by kernel_rfl) Tryz.func4 (by kernel_rfl)
    (of_decide_eq_true (by kernel_rfl)) (by unfold Func.isWrapper; first | (rw [if_pos (by decide +kernel)]; kernel_rfl) | (rw [if_neg (by decide +kernel)]; exact ⟨rfl, rfl⟩))
    (fun os started H enc _ => auditSteps_lifted os started H enc)

theorem auditSteps_holds : Rows.AuditStepsCardSaid :=
  Claim7.holds_tied_plain_at .later [] [.data, .pinned] true (true, "f53c35da5abb6571106dfae3663f066bab674503a348454619e19db17de00a85") false auditSteps_row (fun _ h => by cases h) (by kernel_rfl) (fun _ h => by cases h) auditSteps_row_tie rfl ⟨rfl, rfl⟩ (by kernel_rfl) rfl
    (fun f fn hf hfn => by
      obtain rfl : f = 4 := Option.some.inj ((show Tryz.prog.funcNamed "groundling/groundlinglaw32.AuditSteps" = some 4 by kernel_rfl).symm.trans hf) |>.symm
      obtain rfl : fn = Tryz.f4 := (Option.some.inj (Tryz.func4.symm.trans hfn)).symm
      exact ⟨by kernel_rfl, fun j t ht => by
        rw [Tryz.params4] at ht
        have hm : t ∈ [37, 47] := by simpa using Array.mem_of_getElem? ht
        have hall : ([37, 47].all fun u => !Tryz.prog.wantsStandIn u) = true := by kernel_rfl
        exact (show Tryz.prog.wantsStandIn t = false by simpa using List.all_eq_true.1 hall t hm)⟩)
    (by kernel_rfl)
end Go.Proofs.YtcomfhigbjkoeaaGreatDoor
