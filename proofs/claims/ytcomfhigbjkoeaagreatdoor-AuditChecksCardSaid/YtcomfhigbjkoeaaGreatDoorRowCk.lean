/-
  No statement is proved here: numbers and faults among the arguments, opened. Conditions: none.
  No statement is proved here: venues and records among the arguments, opened. Conditions: none.
  Walk of groundlinglaw32.AuditChecks. Conditions: as the theorem says.
  The statement AuditChecksCardSaid, proved: the row over the walk of the law, and the tied card over the row. Conditions: none.
-/
import Derived.Test.YtcomfhigbjkoeaaGreatDoorAuZ
import Derived.Test.YtcomfhigbjkoeaaGreatDoorLibR
import Derived.Test.YtcomfhigbjkoeaaGreatDoorRows
import Derived.Deep.Strs
import Derived.Test.YtcomfhigbjkoeaaGreatDoorRuK
import Derived.Test.YtcomfhigbjkoeaaGreatDoorSmM
import Derived.Test.YtcomfhigbjkoeaaGreatDoorTie
import Derived.Test.YtcomfhigbjkoeaaGreatDoorCards
import Derived.LaidMore
import Derived.Lay
import Derived.SevenTiedAt
import Derived.Stop.Joined
namespace Go.Proofs.YtcomfhigbjkoeaaGreatDoor
open Go.RowKit Go.ChangeShapes Go.WideShapes Go.ChangeAt Go.Joins

theorem Tryz.own : ownKnob Tryz.prog.godebug = none := by kernel_rfl
theorem Tryz.laidOut : laidOutB Tryz.prog = true := by kernel_rfl

theorem bd_of_wf {x : Int} (h : (Lit.int .i64 x).wf = true) : Bd x := by
  simp [Lit.wf, IntKind.min, IntKind.max, IntKind.signed, IntKind.bits] at h
  exact ⟨by omega, by omega⟩
theorem u8_of_wf {x : Int} (h : (Lit.int .u8 x).wf = true) : 0 ≤ x ∧ x ≤ 255 := by
  simp [Lit.wf, IntKind.min, IntKind.max, IntKind.signed, IntKind.bits] at h
  exact ⟨by omega, by omega⟩
theorem u16_of_wf {x : Int} (h : (Lit.int .u16 x).wf = true) : 0 ≤ x ∧ x ≤ 65535 := by
  simp [Lit.wf, IntKind.min, IntKind.max, IntKind.signed, IntKind.bits] at h
  exact ⟨by omega, by omega⟩
theorem u32_of_wf {x : Int} (h : (Lit.int .u32 x).wf = true) : U32 x := by
  simp [Lit.wf, IntKind.min, IntKind.max, IntKind.signed, IntKind.bits] at h
  exact ⟨by omega, by omega⟩
theorem u64_of_wf {x : Int} (h : (Lit.int .u64 x).wf = true) : U64 x := by
  simp [Lit.wf, IntKind.min, IntKind.max, IntKind.signed, IntKind.bits] at h
  exact ⟨by omega, by omega⟩

theorem row_at {P : Program} {W : World} {b0 : Nat} {t : TypeId} {cs : Array Value} {ts : List TypeId} (ht : P.cellTypes P.depth t = some ts) (h : Row.okWide P W .any b0 t cs) (i : Nat) (hi : i < ts.length) {v : Value} (hv : cs[i]? = some v) {u : TypeId} (hu : ts[i]? = some u) :
    Cell.okWide P W .any b0 u v := by
  obtain ⟨ts', h1, _, h2⟩ := h
  obtain rfl : ts = ts' := Option.some.inj (ht.symm.trans h1)
  obtain ⟨u', h3, h4⟩ := h2 i v hv
  rw [Nat.mod_eq_of_lt hi, hu] at h3
  injection h3 with h3
  subst h3
  exact h4

section
variable {H : Type} {enc : TypeId × Value → H}

set_option maxRecDepth 20000 in
theorem faults_open {W : World} {b0 : Nat} {v : Value} {d : DataW H} {p : List MemPlace} (hok : Value.okWide Tryz.prog W .any b0 28 v) (h : DataW.Trod enc Tryz.prog W 0 (fun _ => true) true 28 v d p) :
    ∃ xs : List (Int × Int), Sl faR W v xs := by
  have hok' := hok
  simp only [Value.okWide, Tryz.underlying28] at hok'
  obtain ⟨a, len, cap, rfl⟩ := okWide_slice Tryz.underlying28 hok
  obtain ⟨fuel, h⟩ := h
  refine sl_of faR Tryz.underlying28 (by kernel_rfl) hok' (fun n cs y hlen htr => ?_) (n := fuel) (y := (d, p)) (by simpa [Value.cells] using h)
  match cs, hlen with
  | [c0, c1], _ =>
    obtain ⟨z0, z1, m, _, _, g0, g1⟩ := trod_struct2 Tryz.underlying63 htr
    obtain ⟨x1, h1, _, w1⟩ := DataW.trod_int Tryz.underlying3 g0
    obtain ⟨x2, h2, _, w2⟩ := DataW.trod_int Tryz.underlying3 g1
    have hc : Tryz.prog.cellsOf 3 = 1 := by kernel_rfl
    simp [hc] at h1 h2
    subst h1 h2
    exact ⟨(x1, x2), rfl, bd_of_wf w1, bd_of_wf w2⟩

set_option maxRecDepth 20000 in
theorem num_open {k : IntKind} {t : TypeId} (ht : Tryz.prog.underlying t = some (.int k)) {W : World} {b0 : Nat} {v : Value} {d : DataW H} {p : List MemPlace} (hok : Value.okWide Tryz.prog W .any b0 t v) (h : DataW.Trod enc Tryz.prog W 0 (fun _ => true) true t v d p) :
    ∃ x : Int, v = .int k x ∧ (Lit.int k x).wf = true := by
  simp only [Value.okWide, ht, Cell.okWide, Cell.ok] at hok
  cases v <;> simp at hok
  rename_i k' x
  obtain ⟨fuel, h⟩ := h
  obtain ⟨x', e, _, w⟩ := DataW.trod_int ht h
  simp [Value.cells] at e
  obtain ⟨rfl, rfl⟩ := e
  exact ⟨_, rfl, w⟩
end
end Go.Proofs.YtcomfhigbjkoeaaGreatDoor

namespace Go.Proofs.YtcomfhigbjkoeaaGreatDoor
open Go.RowKit Go.ChangeShapes Go.WideShapes Go.ChangeAt Go.Joins

section
variable {H : Type} {enc : TypeId × Value → H} {P : Program}

/-- A field of a struct that is read. -/
theorem field_in {W : World} {t : TypeId} {fs : Array Field} {n : Nat} {cs : List Value} {y : DataW H × List MemPlace} (ht : P.underlying t = some (.struct fs)) (h : DataW.trod enc P W 0 (fun _ => true) true n t cs = some y) (i : Nat) (u : TypeId) (o k : Nat) (hf : (fs[i]?).map (fun f => (f.type, f.offset)) = some (u, o)) (hk : P.cellsOf u = k) :
    ∃ m z, DataW.trod enc P W 0 (fun _ => true) true m u ((cs.drop o).take k) = some z := by
  cases hi : fs[i]? with
  | none => rw [hi] at hf; cases hf
  | some f =>
    rw [hi] at hf
    simp only [Option.map_some, Option.some.injEq, Prod.mk.injEq] at hf
    obtain ⟨rfl, rfl⟩ := hf
    subst hk
    exact trod_field ht h i hi
end

section
variable {H : Type} {enc : TypeId × Value → H}

theorem u_int {W : World} {n : Nat} {k : IntKind} {t : TypeId} {v : Value} {y : DataW H × List MemPlace} (ht : Tryz.prog.underlying t = some (.int k)) (h : DataW.trod enc Tryz.prog W 0 (fun _ => true) true n t [v] = some y) : ∃ x, v = .int k x ∧ (Lit.int k x).wf = true := by
  obtain ⟨x, e, _, hw⟩ := DataW.trod_int ht h
  simp at e
  exact ⟨x, e, hw⟩

set_option maxRecDepth 20000 in
theorem ints_in {W : World} {n : Nat} {v : Value} {y : DataW H × List MemPlace} (h : DataW.trod enc Tryz.prog W 0 (fun _ => true) true n 35 [v] = some y) : ∃ xs, Sl intR W v xs := by
  refine sl_in intR Tryz.underlying35 (by kernel_rfl) (by decide) (fun n cs y hlen htr => ?_) h
  match cs, hlen with
  | [c0], _ =>
    obtain ⟨x, rfl, hw⟩ := u_int Tryz.underlying3 htr
    exact ⟨x, rfl, bd_of_wf hw⟩

set_option maxRecDepth 20000 in
theorem secs_in {W : World} {n : Nat} {v : Value} {y : DataW H × List MemPlace} (h : DataW.trod enc Tryz.prog W 0 (fun _ => true) true n 22 [v] = some y) : ∃ xs, Sl secR W v xs := by
  refine sl_in secR Tryz.underlying22 (by kernel_rfl) (by decide) (fun n cs y hlen htr => ?_) h
  match cs, hlen with
  | [c0, c1, c2], _ =>
    obtain ⟨_, _, h0⟩ := field_in Tryz.underlying57 htr 0 9 0 1 rfl (by kernel_rfl)
    obtain ⟨_, _, h1⟩ := field_in Tryz.underlying57 htr 1 35 1 1 rfl (by kernel_rfl)
    obtain ⟨_, _, h2⟩ := field_in Tryz.underlying57 htr 2 3 2 1 rfl (by kernel_rfl)
    simp only [List.drop_succ_cons, List.drop_zero, List.take_succ_cons, List.take_zero] at h0 h1 h2
    obtain ⟨s, e, _, hsz⟩ := DataW.trod_string Tryz.underlying9 h0
    simp at e
    subst e
    obtain ⟨rows, hr⟩ := ints_in h1
    obtain ⟨x, rfl, hw⟩ := u_int Tryz.underlying3 h2
    obtain ⟨A, c, rfl, _, _, hr⟩ := hr.open
    exact ⟨⟨s, rows, x⟩, A, c, rfl, hr, bd_of_wf hw, hsz⟩

set_option maxRecDepth 20000 in
/-- A venue among the arguments. -/
theorem ve_open {W : World} {b0 : Nat} {v : Value} {d : DataW H} {p : List MemPlace} (hok : Value.okWide Tryz.prog W .any b0 24 v) (h : DataW.Trod enc Tryz.prog W 0 (fun _ => true) true 24 v d p) :
    ∃ x : Ve, ∃ V vc, v = .agg #[.int .i64 x.shards, .int .i64 x.ttl, .int .i64 x.session, .slice V x.secs.length vc] ∧ Sl secR W (.slice V x.secs.length vc) x.secs ∧ Bd x.shards ∧ Bd x.ttl ∧ Bd x.session := by
  obtain ⟨v0, v1, v2, v3, y0, y1, y2, y3, n, rfl, _, _, h0, h1, h2, h3⟩ := open_agg4 Tryz.underlying24 (by kernel_rfl) (by kernel_rfl) hok h
  obtain ⟨x0, rfl, w0⟩ := u_int Tryz.underlying3 h0
  obtain ⟨x1, rfl, w1⟩ := u_int Tryz.underlying2 h1
  obtain ⟨x2, rfl, w2⟩ := u_int Tryz.underlying2 h2
  obtain ⟨xs, hs⟩ := secs_in h3
  obtain ⟨A, c, rfl, _, _, hs⟩ := hs.open
  exact ⟨⟨x0, x1, x2, xs⟩, A, c, rfl, hs, bd_of_wf w0, bd_of_wf w1, bd_of_wf w2⟩

set_option maxRecDepth 20000 in
theorem tk_in {W : World} {n : Nat} {c0 c1 c2 c3 : Value} {y : DataW H × List MemPlace} (h : DataW.trod enc Tryz.prog W 0 (fun _ => true) true n 41 [c0, c1, c2, c3] = some y) : ∃ t : Tk, [c0, c1, c2, c3] = [.int .u32 t.seat, .int .u32 t.owner, .int .u64 t.serial, .int .u64 t.epoch] ∧ TkOk t := by
  obtain ⟨_, _, h0⟩ := field_in Tryz.underlying41 h 0 38 0 1 rfl (by kernel_rfl)
  obtain ⟨_, _, h1⟩ := field_in Tryz.underlying41 h 1 38 1 1 rfl (by kernel_rfl)
  obtain ⟨_, _, h2⟩ := field_in Tryz.underlying41 h 2 39 2 1 rfl (by kernel_rfl)
  obtain ⟨_, _, h3⟩ := field_in Tryz.underlying41 h 3 39 3 1 rfl (by kernel_rfl)
  simp only [List.drop_succ_cons, List.drop_zero, List.take_succ_cons, List.take_zero] at h0 h1 h2 h3
  obtain ⟨x0, rfl, w0⟩ := u_int Tryz.underlying38 h0
  obtain ⟨x1, rfl, w1⟩ := u_int Tryz.underlying38 h1
  obtain ⟨x2, rfl, w2⟩ := u_int Tryz.underlying39 h2
  obtain ⟨x3, rfl, w3⟩ := u_int Tryz.underlying39 h3
  exact ⟨⟨x0, x1, x2, x3⟩, rfl, u32_of_wf w0, u32_of_wf w1, u64_of_wf w2, u64_of_wf w3⟩

set_option maxRecDepth 20000 in
theorem op_in {W : World} {n : Nat} {c0 c1 c2 c3 c4 c5 c6 c7 c8 c9 c10 c11 : Value} {y : DataW H × List MemPlace} (h : DataW.trod enc Tryz.prog W 0 (fun _ => true) true n 43 [c0, c1, c2, c3, c4, c5, c6, c7, c8, c9, c10, c11] = some y) : ∃ o : MOp, [c0, c1, c2, c3, c4, c5, c6, c7, c8, c9, c10, c11] = opCells o ∧ OpOk o := by
  obtain ⟨_, _, h0⟩ := field_in Tryz.underlying43 h 0 3 0 1 rfl (by kernel_rfl)
  obtain ⟨_, _, h1⟩ := field_in Tryz.underlying43 h 1 38 1 1 rfl (by kernel_rfl)
  obtain ⟨_, _, h2⟩ := field_in Tryz.underlying43 h 2 2 2 1 rfl (by kernel_rfl)
  obtain ⟨_, _, h3⟩ := field_in Tryz.underlying43 h 3 3 3 1 rfl (by kernel_rfl)
  obtain ⟨_, _, h4⟩ := field_in Tryz.underlying43 h 4 3 4 1 rfl (by kernel_rfl)
  obtain ⟨_, _, h5⟩ := field_in Tryz.underlying43 h 5 3 5 1 rfl (by kernel_rfl)
  obtain ⟨_, _, h6⟩ := field_in Tryz.underlying43 h 6 38 6 1 rfl (by kernel_rfl)
  obtain ⟨_, _, h7⟩ := field_in Tryz.underlying43 h 7 41 7 4 rfl (by kernel_rfl)
  obtain ⟨_, _, h8⟩ := field_in Tryz.underlying43 h 8 2 11 1 rfl (by kernel_rfl)
  simp only [List.drop_succ_cons, List.drop_zero, List.take_succ_cons, List.take_zero] at h0 h1 h2 h3 h4 h5 h6 h7 h8
  obtain ⟨x0, rfl, w0⟩ := u_int Tryz.underlying3 h0
  obtain ⟨x1, rfl, w1⟩ := u_int Tryz.underlying38 h1
  obtain ⟨x2, rfl, w2⟩ := u_int Tryz.underlying2 h2
  obtain ⟨x3, rfl, w3⟩ := u_int Tryz.underlying3 h3
  obtain ⟨x4, rfl, w4⟩ := u_int Tryz.underlying3 h4
  obtain ⟨x5, rfl, w5⟩ := u_int Tryz.underlying3 h5
  obtain ⟨x6, rfl, w6⟩ := u_int Tryz.underlying38 h6
  obtain ⟨t, he, ht⟩ := tk_in h7
  simp only [List.cons.injEq, and_true] at he
  obtain ⟨rfl, rfl, rfl, rfl⟩ := he
  obtain ⟨x8, rfl, w8⟩ := u_int Tryz.underlying2 h8
  exact ⟨⟨x0, x1, x2, x3, x4, x5, x6, t, x8⟩, rfl, bd_of_wf w0, u32_of_wf w1, bd_of_wf w2, bd_of_wf w3, bd_of_wf w4, bd_of_wf w5, u32_of_wf w6, ht, bd_of_wf w8⟩

set_option maxRecDepth 20000 in
theorem rp_in {W : World} {n : Nat} {c0 c1 c2 c3 c4 c5 c6 c7 c8 : Value} {y : DataW H × List MemPlace} (h : DataW.trod enc Tryz.prog W 0 (fun _ => true) true n 45 [c0, c1, c2, c3, c4, c5, c6, c7, c8] = some y) : ∃ o : MRp, [c0, c1, c2, c3, c4, c5, c6, c7, c8] = rpCells o ∧ RpOk o := by
  obtain ⟨_, _, h0⟩ := field_in Tryz.underlying45 h 0 29 0 1 rfl (by kernel_rfl)
  obtain ⟨_, _, h1⟩ := field_in Tryz.underlying45 h 1 3 1 1 rfl (by kernel_rfl)
  obtain ⟨_, _, h2⟩ := field_in Tryz.underlying45 h 2 3 2 1 rfl (by kernel_rfl)
  obtain ⟨_, _, h3⟩ := field_in Tryz.underlying45 h 3 2 3 1 rfl (by kernel_rfl)
  obtain ⟨_, _, h4⟩ := field_in Tryz.underlying45 h 4 41 4 4 rfl (by kernel_rfl)
  obtain ⟨_, _, h5⟩ := field_in Tryz.underlying45 h 5 3 8 1 rfl (by kernel_rfl)
  simp only [List.drop_succ_cons, List.drop_zero, List.take_succ_cons, List.take_zero] at h0 h1 h2 h3 h4 h5
  obtain ⟨x0, rfl, w0⟩ := u_int Tryz.underlying29 h0
  obtain ⟨x1, rfl, w1⟩ := u_int Tryz.underlying3 h1
  obtain ⟨x2, rfl, w2⟩ := u_int Tryz.underlying3 h2
  obtain ⟨x3, rfl, w3⟩ := u_int Tryz.underlying2 h3
  obtain ⟨t, he, ht⟩ := tk_in h4
  simp only [List.cons.injEq, and_true] at he
  obtain ⟨rfl, rfl, rfl, rfl⟩ := he
  obtain ⟨x5, rfl, w5⟩ := u_int Tryz.underlying3 h5
  exact ⟨⟨x0, x1, x2, x3, t, x5⟩, rfl, bd_of_wf w0, bd_of_wf w1, bd_of_wf w2, bd_of_wf w3, ht, bd_of_wf w5⟩

set_option maxRecDepth 20000 in
/-- A record among the arguments. -/
theorem steps_open {W : World} {b0 : Nat} {v : Value} {d : DataW H} {p : List MemPlace} (hok : Value.okWide Tryz.prog W .any b0 25 v) (h : DataW.Trod enc Tryz.prog W 0 (fun _ => true) true 25 v d p) : ∃ xs : List (MOp × MRp), Sl stR W v xs := by
  obtain ⟨fuel, h⟩ := h
  obtain ⟨A, l, c, rfl⟩ := okWide_slice Tryz.underlying25 hok
  refine sl_in stR Tryz.underlying25 (by kernel_rfl) (by decide) (fun n cs y hlen htr => ?_) (n := fuel) (y := (d, p)) (by simpa [Value.cells] using h)
  match cs, hlen with
  | [c0, c1, c2, c3, c4, c5, c6, c7, c8, c9, c10, c11, c12, c13, c14, c15, c16, c17, c18, c19, c20], _ =>
    obtain ⟨_, _, h0⟩ := field_in Tryz.underlying47 htr 0 43 0 12 rfl (by kernel_rfl)
    obtain ⟨_, _, h1⟩ := field_in Tryz.underlying47 htr 1 45 12 9 rfl (by kernel_rfl)
    simp only [List.drop_succ_cons, List.drop_zero, List.take_succ_cons, List.take_zero] at h0 h1
    obtain ⟨o, he, ho⟩ := op_in h0
    obtain ⟨r, he2, hr⟩ := rp_in h1
    have e : [c0, c1, c2, c3, c4, c5, c6, c7, c8, c9, c10, c11, c12, c13, c14, c15, c16, c17, c18, c19, c20] = opCells o ++ rpCells r := by rw [← he, ← he2]; rfl
    exact ⟨(o, r), e, ho, hr⟩

end
end Go.Proofs.YtcomfhigbjkoeaaGreatDoor

namespace Go.Proofs.YtcomfhigbjkoeaaGreatDoor
open Go.RowKit

set_option maxRecDepth 100000 in
set_option maxHeartbeats 16000000 in
theorem lawChecks_any {w : World} {V : Option Addr} {vc : Nat} {x : Ve} (hv : Sl secR w (.slice V x.secs.length vc) x.secs) (h1 : Bd x.shards) (h2 : Bd x.ttl) (h3 : Bd x.session) {L : Option Addr} {lc : Nat} {l : List (MOp × MRp)} (hl : Sl stR w (.slice L l.length lc) l) :
    Calls Tryz.prog 3 #[.agg #[.int .i64 x.shards, .int .i64 x.ttl, .int .i64 x.session, .slice V x.secs.length vc], .slice L l.length lc] w fun e w' => e = .returned (.bool true) ∧ Below w.heap.size w w' := by
  have CF := Lib.hid (fun W (hb : Below w.heap.size w W) => far_any (hv.up hb))
  have C1 := Lib.hid (fun W (hb : Below w.heap.size w W) => auCheck_any (hv.up hb) h1 h2 h3 (hl.up hb))
  have C2 := Lib.hid (fun W (hb : Below w.heap.size w W) => rcheckA_any (hv.up hb) h1 h2 h3 (hl.up hb))
  have CW := Lib.hid (fun W => awake_any W)
  unfold FarPost at CF
  unfold CheckPost at C1 C2
  generalize checkA x l = K at C1 C2
  obtain ⟨fs, fe⟩ := K
  simp only at C1 C2
  clear hv h1 h2 h3 hl
  go_enter Tryz.func3, Tryz.ntmps3
  go_upto_region 1 with fail
  obtain ⟨q, hq⟩ : ∃ q, w.heap.size = q := ⟨_, rfl⟩
  rw [hq]
  refine at_world (fun W => Below w.heap.size w W ∧ Cells W q [.int .i64 x.shards, .int .i64 x.ttl, .int .i64 x.session, .slice V x.secs.length vc]) ⟨ba _ _, Cells.newS _ _ _ _ hq.symm⟩ fun w0 ⟨hb0, k0⟩ => ?_
  have D0 := Lib.hid hb0
  have K0 := Lib.hid k0
  clear hb0 k0 hq
  have c0 := K0.out.c 0 _ rfl
  have c1 := K0.out.c 1 _ rfl
  have c2 := K0.out.c 2 _ rfl
  have c3 := K0.out.c 3 _ rfl
  have y0 := K0.out.lt
  by_cases hb : (60 < l.length ∧ l.length ≤ 1000) ∨ 1100 < l.length
  case pos => as_aux_lemma =>
    have hcase : (decide ((60 : Int) < (l.length : Int)) = true ∧ decide ((l.length : Int) ≤ 1000) = true) ∨ (decide ((60 : Int) < (l.length : Int)) = true ∧ decide ((l.length : Int) ≤ 1000) = false ∧ decide ((1100 : Int) < (l.length : Int)) = true) := by
      rcases hb with ⟨h1, h2⟩ | h
      · exact .inl ⟨decide_eq_true (by omega), decide_eq_true (by omega)⟩
      · exact .inr ⟨decide_eq_true (by omega), decide_eq_false (by omega), decide_eq_true (by omega)⟩
    clear hb C1 C2
    go_wp2_with fail
    refine (CF.out _ D0.out).mono ?_
    rintro e1 w1 ⟨fb, rfl, hb1⟩
    have D1 := Lib.hid (D0.out.trans (hb1.mono D0.out.size))
    clear hb1 CF c0 c1 c2 c3 y0
    rcases hcase with ⟨t1, t2⟩ | ⟨t1, t2, t3⟩
    all_goals
      cases fb with
      | true =>
        go_wp2_with fail
        refine (CW.out _).mono ?_
        rintro e w2 ⟨rfl, hb⟩
        have D2 := Lib.hid (D1.out.trans (hb.mono D1.out.size))
        clear hb
        go_wp2_with fail
        go_ret
        exact ⟨rfl, D2.out⟩
      | false =>
        go_wp2_with fail
        refine (CW.out _).mono ?_
        rintro e w2 ⟨rfl, hb⟩
        have D2 := Lib.hid (D1.out.trans (hb.mono D1.out.size))
        clear hb
        go_wp2_with fail
        go_ret
        exact ⟨rfl, D2.out⟩
  have hcase : (decide ((60 : Int) < (l.length : Int)) = false ∧ decide ((1100 : Int) < (l.length : Int)) = false) ∨ (decide ((60 : Int) < (l.length : Int)) = true ∧ decide ((l.length : Int) ≤ 1000) = false ∧ decide ((1100 : Int) < (l.length : Int)) = false) := by
    by_cases h : 60 < l.length
    · exact .inr ⟨decide_eq_true (by omega), decide_eq_false (by omega), decide_eq_false (by omega)⟩
    · exact .inl ⟨decide_eq_false (by omega), decide_eq_false (by omega)⟩
  clear hb
  go_wp2_with fail
  refine (CF.out _ D0.out).mono ?_
  rintro e1 w1 ⟨fb, rfl, hb1⟩
  have D1 := Lib.hid (D0.out.trans (hb1.mono D0.out.size))
  have K1 := Lib.hid (K0.out.later hb1)
  clear hb1 CF c0 c1 c2 c3 y0 D0 K0
  cases fb with
  | true => as_aux_lemma =>
    clear C1 C2 hcase
    go_wp2_with fail
    refine (CW.out _).mono ?_
    rintro e w2 ⟨rfl, hb⟩
    have D2 := Lib.hid (D1.out.trans (hb.mono D1.out.size))
    clear hb
    go_wp2_with fail
    go_ret
    exact ⟨rfl, D2.out⟩
  | false =>
  have c0 := K1.out.c 0 _ rfl
  have c1 := K1.out.c 1 _ rfl
  have c2 := K1.out.c 2 _ rfl
  have c3 := K1.out.c 3 _ rfl
  have y0 := K1.out.lt
  rcases hcase with ⟨t1, t2⟩ | ⟨t1, t2, t3⟩
  all_goals
    go_wp2_with fail
    refine (C1.out _ D1.out).mono ?_
    rintro e w2 ⟨A1, d1, rfl, o1, hb2⟩
    have D2 := Lib.hid (D1.out.trans (hb2.mono D1.out.size))
    have K2 := Lib.hid (K1.out.later hb2)
    have S1 := Lib.hid o1.sl
    clear hb2 o1 c0 c1 c2 c3 y0
    have c0 := K2.out.c 0 _ rfl
    have c1 := K2.out.c 1 _ rfl
    have c2 := K2.out.c 2 _ rfl
    have c3 := K2.out.c 3 _ rfl
    have y0 := K2.out.lt
    go_wp2_with fail
    refine (C2.out _ D2.out).mono ?_
    rintro e w3 ⟨A2, d2, rfl, o2, hb3⟩
    have D3 := Lib.hid (D2.out.trans (hb3.mono D2.out.size))
    have CS := Lib.hid (sameF_any (S1.out.up hb3) o2.sl)
    rw [show decide (fs = fs) = true by simp] at CS
    clear hb3 o2 c0 c1 c2 c3 y0
    go_wp2_with fail
    refine CS.out.mono ?_
    rintro e w4 ⟨rfl, hb4⟩
    have D4 := Lib.hid (D3.out.trans (hb4.mono D3.out.size))
    clear hb4
    go_wp2_with fail
    refine (CW.out _).mono ?_
    rintro e w5 ⟨rfl, hb5⟩
    have D5 := Lib.hid (D4.out.trans (hb5.mono D4.out.size))
    clear hb5
    go_wp2_with fail
    go_ret
    exact ⟨rfl, D5.out⟩
end Go.Proofs.YtcomfhigbjkoeaaGreatDoor

namespace Go.Proofs.YtcomfhigbjkoeaaGreatDoor
open Go.ChangeShapes Go.WideShapes Go.ChangeAt Go.RowKit

set_option maxRecDepth 100000 in
theorem auditChecks_lifted (os : Os) (started : os.Started) (H : Type) (enc : TypeId × Value → H) :
    ReturnsInHanded {} Tryz.checked os 3 .any (fun w args => (Rows.auditChecksSpec.pre enc Tryz.prog Tryz.f3 Rows.auditChecksRow.domain false w args ∧ laidMetH Tryz.prog Rows.auditChecksRow.laid w) ∧ sizedMet enc Tryz.prog Tryz.f3 (OpenSpec.ofChange Rows.auditChecksSpec) false w args)
      (Rows.auditChecksSpec.post enc Tryz.prog Tryz.f3 false true false false) := by
  refine returnsInHanded_of_change_and (C := Tryz.checked) (X := fun w _ => laidMetH Tryz.prog Rows.auditChecksRow.laid w) (fun _ _ _ hh h => h.of_heap hh) Tryz.own started (by kernel_rfl) Tryz.func3
    (ChangeSpec.witness_shaped (enc := enc) (C := Tryz.checked) (os := os) (X := fun w _ => laidMetH Tryz.prog Rows.auditChecksRow.laid w) false (World.laidAll Tryz.prog os Rows.auditChecksRow.laid) #[.agg #[.int .i64 0, .int .i64 0, .int .i64 0, .slice none 0 0], .slice none 0 0] 8 (World.laidAll_os _ _ _)
      (World.shaped_of_ZipB (by kernel_rfl) (by kernel_rfl)) (by kernel_rfl) (by kernel_rfl) (by kernel_rfl)
      (by rw [MakeChecks.laidMetH_plain _ _ _ (by kernel_rfl)]; exact laidMet_laidAll _ (by kernel_rfl) (by kernel_rfl))) ?_
  intro W base args ds gs before hval0 hW _ _ _ _
  have hval : ∀ (j : Nat) t v, Tryz.f3.params[j]? = some t → args[j]? = some v → Value.okWide Tryz.prog W .any base t v := hval0
  clear hval0
  have hW' := hW
  obtain ⟨p, q, hA0, _, _, _, _⟩ := hW'
  have hA : DataW.TrodAll enc Tryz.prog W 0 (fun _ => true) true Tryz.f3.params.toList args.toList ds p := hA0
  rw [Tryz.params3] at hA hval
  obtain ⟨v0, v1, d0, d1, p0, p1, rfl, rfl, rfl, h0, h1⟩ := trodAll_two hA
  obtain ⟨x, V, vc, rfl, hv, b1, b2, b3⟩ := ve_open (hval 0 _ _ rfl rfl) h0
  obtain ⟨l, hs⟩ := steps_open (hval 1 _ _ rfl rfl) h1
  obtain ⟨L, lc, rfl, _, _, hl⟩ := hs.open
  exact law_calls Tryz.laidOut (by kernel_rfl) (by kernel_rfl) Tryz.underlying4 rfl rfl hW (lawChecks_any hv b1 b2 b3 hl)

theorem auditChecks_row : Rows.AuditChecksSaid :=
  OpenClaim.holds_of_wide 3 Tryz.f3 rfl rfl rfl rfl rfl rfl rfl ⟨rfl, rfl, rfl, rfl, rfl⟩ rfl rfl rfl rfl rfl (by kernel_rfl) Tryz.func3 (by kernel_rfl)
    (of_decide_eq_true (by kernel_rfl)) (by unfold Func.isWrapper; first | (rw [if_pos (by decide +kernel)]; kernel_rfl) | (rw [if_neg (by decide +kernel)]; exact ⟨rfl, rfl⟩))
    (fun os started H enc _ => auditChecks_lifted os started H enc)

theorem auditChecks_holds : Rows.AuditChecksCardSaid :=
  Claim7.holds_tied_plain_at .later [] [.data, .pinned] true (true, "f53c35da5abb6571106dfae3663f066bab674503a348454619e19db17de00a85") false auditChecks_row (fun _ h => by cases h) (by kernel_rfl) (fun _ h => by cases h) auditChecks_row_tie rfl ⟨rfl, rfl⟩ (by kernel_rfl) rfl
    (fun f fn hf hfn => by
      obtain rfl : f = 3 := Option.some.inj ((show Tryz.prog.funcNamed "groundling/groundlinglaw32.AuditChecks" = some 3 by kernel_rfl).symm.trans hf) |>.symm
      obtain rfl : fn = Tryz.f3 := (Option.some.inj (Tryz.func3.symm.trans hfn)).symm
      exact ⟨by kernel_rfl, fun j t ht => by
        rw [Tryz.params3] at ht
        have hm : t ∈ [24, 25] := by simpa using Array.mem_of_getElem? ht
        have hall : ([24, 25].all fun u => !Tryz.prog.wantsStandIn u) = true := by kernel_rfl
        exact (show Tryz.prog.wantsStandIn t = false by simpa using List.all_eq_true.1 hall t hm)⟩)
    (by kernel_rfl)
end Go.Proofs.YtcomfhigbjkoeaaGreatDoor
