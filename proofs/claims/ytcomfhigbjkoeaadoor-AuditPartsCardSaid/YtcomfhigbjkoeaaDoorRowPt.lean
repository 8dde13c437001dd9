/-
  The statement AuditPartsCardSaid, proved: venues and records among the arguments, opened; the row over the walk of the law, and the tied card over the row. Conditions: none.
-/
import Derived.Test.YtcomfhigbjkoeaaDoorAuArg
import Derived.Test.YtcomfhigbjkoeaaDoorLawPt
import Derived.Test.YtcomfhigbjkoeaaDoorTie
import Derived.Test.YtcomfhigbjkoeaaDoorCards
import Derived.LaidMore
import Derived.Lay
import Derived.SevenTiedAt
import Derived.Stop.Joined
namespace Go.Proofs.YtcomfhigbjkoeaaDoor
open Go.RowKit Go.ChangeShapes Go.WideShapes Go.ChangeAt Go.Joins

section
variable {H : Type} {enc : TypeId × Value → H} {P : Program}

/-- A field of a struct that is read. -/
theorem field_in {W : World} {t : TypeId} {fs : Array Field} {n : Nat} {cs : List Value} {y : DataW H × List MemPlace} (ht : P.underlying t = some (.struct fs)) (h : DataW.trod enc P W 0 (fun _ => true) true n t cs = some y) (i : Nat) (u : TypeId) (o k : Nat) (hf : (fs[i]?).map (fun f => (f.type, f.offset)) = some (u, o)) (hk : P.cellsOf u = k) :
    ∃ m z, DataW.trod enc P W 0 (fun _ => true) true m u ((cs.drop o).take k) = some z := by
  cases hi : fs[i]? with
  | none => rw [hi] at hf; cases hf
  | some f =>
    rw [hi] at hf
    simp only [Option.map_some, Option.some.injEq, Prod.mk.injEq] at hf
    obtain ⟨rfl, rfl⟩ := hf
    subst hk
    exact trod_field ht h i hi
end

section
variable {H : Type} {enc : TypeId × Value → H}

theorem u_int {W : World} {n : Nat} {k : IntKind} {t : TypeId} {v : Value} {y : DataW H × List MemPlace} (ht : Tryd.prog.underlying t = some (.int k)) (h : DataW.trod enc Tryd.prog W 0 (fun _ => true) true n t [v] = some y) : ∃ x, v = .int k x ∧ (Lit.int k x).wf = true := by
  obtain ⟨x, e, _, hw⟩ := DataW.trod_int ht h
  simp at e
  exact ⟨x, e, hw⟩

set_option maxRecDepth 20000 in
theorem ints_in {W : World} {n : Nat} {v : Value} {y : DataW H × List MemPlace} (h : DataW.trod enc Tryd.prog W 0 (fun _ => true) true n 56 [v] = some y) : ∃ xs, Sl intR W v xs := by
  refine sl_in intR Tryd.underlying56 (by kernel_rfl) (by decide) (fun n cs y hlen htr => ?_) h
  match cs, hlen with
  | [c0], _ =>
    obtain ⟨x, rfl, hw⟩ := u_int Tryd.underlying3 htr
    exact ⟨x, rfl, bd_of_wf hw⟩

set_option maxRecDepth 20000 in
theorem secs_in {W : World} {n : Nat} {v : Value} {y : DataW H × List MemPlace} (h : DataW.trod enc Tryd.prog W 0 (fun _ => true) true n 22 [v] = some y) : ∃ xs, Sl secR W v xs := by
  refine sl_in secR Tryd.underlying22 (by kernel_rfl) (by decide) (fun n cs y hlen htr => ?_) h
  match cs, hlen with
  | [c0, c1, c2], _ =>
    obtain ⟨_, _, h0⟩ := field_in Tryd.underlying72 htr 0 9 0 1 rfl (by kernel_rfl)
    obtain ⟨_, _, h1⟩ := field_in Tryd.underlying72 htr 1 56 1 1 rfl (by kernel_rfl)
    obtain ⟨_, _, h2⟩ := field_in Tryd.underlying72 htr 2 3 2 1 rfl (by kernel_rfl)
    simp only [List.drop_succ_cons, List.drop_zero, List.take_succ_cons, List.take_zero] at h0 h1 h2
    obtain ⟨s, e, _, hsz⟩ := DataW.trod_string Tryd.underlying9 h0
    simp at e
    subst e
    obtain ⟨rows, hr⟩ := ints_in h1
    obtain ⟨x, rfl, hw⟩ := u_int Tryd.underlying3 h2
    obtain ⟨A, c, rfl, _, _, hr⟩ := hr.open
    exact ⟨⟨s, rows, x⟩, A, c, rfl, hr, bd_of_wf hw, hsz⟩

set_option maxRecDepth 20000 in
/-- A venue among the arguments. -/
theorem ve_open {W : World} {b0 : Nat} {v : Value} {d : DataW H} {p : List MemPlace} (hok : Value.okWide Tryd.prog W .any b0 24 v) (h : DataW.Trod enc Tryd.prog W 0 (fun _ => true) true 24 v d p) :
    ∃ x : Ve, ∃ V vc, v = .agg #[.int .i64 x.shards, .int .i64 x.ttl, .int .i64 x.session, .slice V x.secs.length vc] ∧ Sl secR W (.slice V x.secs.length vc) x.secs ∧ Bd x.shards ∧ Bd x.ttl ∧ Bd x.session := by
  obtain ⟨v0, v1, v2, v3, y0, y1, y2, y3, n, rfl, _, _, h0, h1, h2, h3⟩ := open_agg4 Tryd.underlying24 (by kernel_rfl) (by kernel_rfl) hok h
  obtain ⟨x0, rfl, w0⟩ := u_int Tryd.underlying3 h0
  obtain ⟨x1, rfl, w1⟩ := u_int Tryd.underlying2 h1
  obtain ⟨x2, rfl, w2⟩ := u_int Tryd.underlying2 h2
  obtain ⟨xs, hs⟩ := secs_in h3
  obtain ⟨A, c, rfl, _, _, hs⟩ := hs.open
  exact ⟨⟨x0, x1, x2, xs⟩, A, c, rfl, hs, bd_of_wf w0, bd_of_wf w1, bd_of_wf w2⟩

set_option maxRecDepth 20000 in
theorem tk_in {W : World} {n : Nat} {c0 c1 c2 c3 : Value} {y : DataW H × List MemPlace} (h : DataW.trod enc Tryd.prog W 0 (fun _ => true) true n 35 [c0, c1, c2, c3] = some y) : ∃ t : Tk, [c0, c1, c2, c3] = [.int .u32 t.seat, .int .u32 t.owner, .int .u64 t.serial, .int .u64 t.epoch] ∧ TkOk t := by
  obtain ⟨_, _, h0⟩ := field_in Tryd.underlying35 h 0 32 0 1 rfl (by kernel_rfl)
  obtain ⟨_, _, h1⟩ := field_in Tryd.underlying35 h 1 32 1 1 rfl (by kernel_rfl)
  obtain ⟨_, _, h2⟩ := field_in Tryd.underlying35 h 2 33 2 1 rfl (by kernel_rfl)
  obtain ⟨_, _, h3⟩ := field_in Tryd.underlying35 h 3 33 3 1 rfl (by kernel_rfl)
  simp only [List.drop_succ_cons, List.drop_zero, List.take_succ_cons, List.take_zero] at h0 h1 h2 h3
  obtain ⟨x0, rfl, w0⟩ := u_int Tryd.underlying32 h0
  obtain ⟨x1, rfl, w1⟩ := u_int Tryd.underlying32 h1
  obtain ⟨x2, rfl, w2⟩ := u_int Tryd.underlying33 h2
  obtain ⟨x3, rfl, w3⟩ := u_int Tryd.underlying33 h3
  exact ⟨⟨x0, x1, x2, x3⟩, rfl, u32_of_wf w0, u32_of_wf w1, u64_of_wf w2, u64_of_wf w3⟩

set_option maxRecDepth 20000 in
theorem op_in {W : World} {n : Nat} {c0 c1 c2 c3 c4 c5 c6 c7 c8 c9 c10 c11 : Value} {y : DataW H × List MemPlace} (h : DataW.trod enc Tryd.prog W 0 (fun _ => true) true n 37 [c0, c1, c2, c3, c4, c5, c6, c7, c8, c9, c10, c11] = some y) : ∃ o : MOp, [c0, c1, c2, c3, c4, c5, c6, c7, c8, c9, c10, c11] = opCells o ∧ OpOk o := by
  obtain ⟨_, _, h0⟩ := field_in Tryd.underlying37 h 0 3 0 1 rfl (by kernel_rfl)
  obtain ⟨_, _, h1⟩ := field_in Tryd.underlying37 h 1 32 1 1 rfl (by kernel_rfl)
  obtain ⟨_, _, h2⟩ := field_in Tryd.underlying37 h 2 2 2 1 rfl (by kernel_rfl)
  obtain ⟨_, _, h3⟩ := field_in Tryd.underlying37 h 3 3 3 1 rfl (by kernel_rfl)
  obtain ⟨_, _, h4⟩ := field_in Tryd.underlying37 h 4 3 4 1 rfl (by kernel_rfl)
  obtain ⟨_, _, h5⟩ := field_in Tryd.underlying37 h 5 3 5 1 rfl (by kernel_rfl)
  obtain ⟨_, _, h6⟩ := field_in Tryd.underlying37 h 6 32 6 1 rfl (by kernel_rfl)
  obtain ⟨_, _, h7⟩ := field_in Tryd.underlying37 h 7 35 7 4 rfl (by kernel_rfl)
  obtain ⟨_, _, h8⟩ := field_in Tryd.underlying37 h 8 2 11 1 rfl (by kernel_rfl)
  simp only [List.drop_succ_cons, List.drop_zero, List.take_succ_cons, List.take_zero] at h0 h1 h2 h3 h4 h5 h6 h7 h8
  obtain ⟨x0, rfl, w0⟩ := u_int Tryd.underlying3 h0
  obtain ⟨x1, rfl, w1⟩ := u_int Tryd.underlying32 h1
  obtain ⟨x2, rfl, w2⟩ := u_int Tryd.underlying2 h2
  obtain ⟨x3, rfl, w3⟩ := u_int Tryd.underlying3 h3
  obtain ⟨x4, rfl, w4⟩ := u_int Tryd.underlying3 h4
  obtain ⟨x5, rfl, w5⟩ := u_int Tryd.underlying3 h5
  obtain ⟨x6, rfl, w6⟩ := u_int Tryd.underlying32 h6
  obtain ⟨t, he, ht⟩ := tk_in h7
  simp only [List.cons.injEq, and_true] at he
  obtain ⟨rfl, rfl, rfl, rfl⟩ := he
  obtain ⟨x8, rfl, w8⟩ := u_int Tryd.underlying2 h8
  exact ⟨⟨x0, x1, x2, x3, x4, x5, x6, t, x8⟩, rfl, bd_of_wf w0, u32_of_wf w1, bd_of_wf w2, bd_of_wf w3, bd_of_wf w4, bd_of_wf w5, u32_of_wf w6, ht, bd_of_wf w8⟩

set_option maxRecDepth 20000 in
theorem rp_in {W : World} {n : Nat} {c0 c1 c2 c3 c4 c5 c6 c7 c8 : Value} {y : DataW H × List MemPlace} (h : DataW.trod enc Tryd.prog W 0 (fun _ => true) true n 39 [c0, c1, c2, c3, c4, c5, c6, c7, c8] = some y) : ∃ o : MRp, [c0, c1, c2, c3, c4, c5, c6, c7, c8] = rpCells o ∧ RpOk o := by
  obtain ⟨_, _, h0⟩ := field_in Tryd.underlying39 h 0 29 0 1 rfl (by kernel_rfl)
  obtain ⟨_, _, h1⟩ := field_in Tryd.underlying39 h 1 3 1 1 rfl (by kernel_rfl)
  obtain ⟨_, _, h2⟩ := field_in Tryd.underlying39 h 2 3 2 1 rfl (by kernel_rfl)
  obtain ⟨_, _, h3⟩ := field_in Tryd.underlying39 h 3 2 3 1 rfl (by kernel_rfl)
  obtain ⟨_, _, h4⟩ := field_in Tryd.underlying39 h 4 35 4 4 rfl (by kernel_rfl)
  obtain ⟨_, _, h5⟩ := field_in Tryd.underlying39 h 5 3 8 1 rfl (by kernel_rfl)
  simp only [List.drop_succ_cons, List.drop_zero, List.take_succ_cons, List.take_zero] at h0 h1 h2 h3 h4 h5
  obtain ⟨x0, rfl, w0⟩ := u_int Tryd.underlying29 h0
  obtain ⟨x1, rfl, w1⟩ := u_int Tryd.underlying3 h1
  obtain ⟨x2, rfl, w2⟩ := u_int Tryd.underlying3 h2
  obtain ⟨x3, rfl, w3⟩ := u_int Tryd.underlying2 h3
  obtain ⟨t, he, ht⟩ := tk_in h4
  simp only [List.cons.injEq, and_true] at he
  obtain ⟨rfl, rfl, rfl, rfl⟩ := he
  obtain ⟨x5, rfl, w5⟩ := u_int Tryd.underlying3 h5
  exact ⟨⟨x0, x1, x2, x3, t, x5⟩, rfl, bd_of_wf w0, bd_of_wf w1, bd_of_wf w2, bd_of_wf w3, ht, bd_of_wf w5⟩

set_option maxRecDepth 20000 in
/-- A record among the arguments. -/
theorem steps_open {W : World} {b0 : Nat} {v : Value} {d : DataW H} {p : List MemPlace} (hok : Value.okWide Tryd.prog W .any b0 25 v) (h : DataW.Trod enc Tryd.prog W 0 (fun _ => true) true 25 v d p) : ∃ xs : List (MOp × MRp), Sl stR W v xs := by
  obtain ⟨fuel, h⟩ := h
  obtain ⟨A, l, c, rfl⟩ := okWide_slice Tryd.underlying25 hok
  refine sl_in stR Tryd.underlying25 (by kernel_rfl) (by decide) (fun n cs y hlen htr => ?_) (n := fuel) (y := (d, p)) (by simpa [Value.cells] using h)
  match cs, hlen with
  | [c0, c1, c2, c3, c4, c5, c6, c7, c8, c9, c10, c11, c12, c13, c14, c15, c16, c17, c18, c19, c20], _ =>
    obtain ⟨_, _, h0⟩ := field_in Tryd.underlying41 htr 0 37 0 12 rfl (by kernel_rfl)
    obtain ⟨_, _, h1⟩ := field_in Tryd.underlying41 htr 1 39 12 9 rfl (by kernel_rfl)
    simp only [List.drop_succ_cons, List.drop_zero, List.take_succ_cons, List.take_zero] at h0 h1
    obtain ⟨o, he, ho⟩ := op_in h0
    obtain ⟨r, he2, hr⟩ := rp_in h1
    have e : [c0, c1, c2, c3, c4, c5, c6, c7, c8, c9, c10, c11, c12, c13, c14, c15, c16, c17, c18, c19, c20] = opCells o ++ rpCells r := by rw [← he, ← he2]; rfl
    exact ⟨(o, r), e, ho, hr⟩

end
end Go.Proofs.YtcomfhigbjkoeaaDoor

namespace Go.Proofs.YtcomfhigbjkoeaaDoor
open Go.ChangeShapes Go.WideShapes Go.ChangeAt Go.RowKit

set_option maxRecDepth 100000 in
theorem auditParts_lifted (os : Os) (started : os.Started) (H : Type) (enc : TypeId × Value → H) :
    ReturnsInHanded {} Tryd.checked os 6 .any (fun w args => (Rows.auditPartsSpec.pre enc Tryd.prog Tryd.f6 Rows.auditPartsRow.domain false w args ∧ laidMetH Tryd.prog Rows.auditPartsRow.laid w) ∧ sizedMet enc Tryd.prog Tryd.f6 (OpenSpec.ofChange Rows.auditPartsSpec) false w args)
      (Rows.auditPartsSpec.post enc Tryd.prog Tryd.f6 false true false false) := by
  refine returnsInHanded_of_change_and (C := Tryd.checked) (X := fun w _ => laidMetH Tryd.prog Rows.auditPartsRow.laid w) (fun _ _ _ hh h => h.of_heap hh) Tryd.own started (by kernel_rfl) Tryd.func6
    (ChangeSpec.witness_shaped (enc := enc) (C := Tryd.checked) (os := os) (X := fun w _ => laidMetH Tryd.prog Rows.auditPartsRow.laid w) false (World.laidAll Tryd.prog os Rows.auditPartsRow.laid) #[.agg #[.int .i64 0, .int .i64 0, .int .i64 0, .slice none 0 0], .slice none 0 0, .int .u8 0] 8 (World.laidAll_os _ _ _)
      (World.shaped_of_ZipB (by kernel_rfl) (by kernel_rfl)) (by kernel_rfl) (by kernel_rfl) (by kernel_rfl)
      (by rw [MakeChecks.laidMetH_plain _ _ _ (by kernel_rfl)]; exact laidMet_laidAll _ (by kernel_rfl) (by kernel_rfl))) ?_
  intro W base args ds gs before hval0 hW _ _ _ _
  have hval : ∀ (j : Nat) t v, Tryd.f6.params[j]? = some t → args[j]? = some v → Value.okWide Tryd.prog W .any base t v := hval0
  clear hval0
  have hW' := hW
  obtain ⟨p, q, hA0, _, _, _, _⟩ := hW'
  have hA : DataW.TrodAll enc Tryd.prog W 0 (fun _ => true) true Tryd.f6.params.toList args.toList ds p := hA0
  rw [Tryd.params6] at hA hval
  obtain ⟨v0, v1, v2, d0, d1, d2, p0, p1, p2, rfl, rfl, rfl, h0, h1, h2⟩ := trodAll_three hA
  obtain ⟨x, V, vc, rfl, hv, b1, b2, b3⟩ := ve_open (hval 0 _ _ rfl rfl) h0
  obtain ⟨l, hs⟩ := steps_open (hval 1 _ _ rfl rfl) h1
  obtain ⟨L, lc, rfl, _, _, hl⟩ := hs.open
  obtain ⟨n, rfl, w2⟩ := num_open Tryd.underlying5 (hval 2 _ _ rfl rfl) h2
  exact law_calls Tryd.laidOut (by kernel_rfl) (by kernel_rfl) Tryd.underlying4 rfl rfl hW (lawParts_any hv b1 b2 b3 hl (u8_of_wf w2))

theorem auditParts_row : Rows.AuditPartsSaid :=
  OpenClaim.holds_of_wide 6 Tryd.f6 rfl rfl rfl rfl rfl rfl rfl ⟨rfl, rfl, rfl, rfl, rfl⟩ rfl rfl rfl rfl rfl (by kernel_rfl) Tryd.func6 (by kernel_rfl)
    (of_decide_eq_true (by kernel_rfl)) (by unfold Func.isWrapper; first | (rw [if_pos (by decide +kernel)]; kernel_rfl) | (rw [if_neg (by decide +kernel)]; exact ⟨rfl, rfl⟩))
    (fun os started H enc _ => auditParts_lifted os started H enc)

theorem auditParts_holds : Rows.AuditPartsCardSaid :=
  Claim7.holds_tied_plain_at .later [] [.data, .pinned] true (true, "f0448b7ab04917f4ab177c184aaaa51112e1c08a44682a120729823579497661") false auditParts_row (fun _ h => by cases h) (by kernel_rfl) (fun _ h => by cases h) auditParts_row_tie rfl ⟨rfl, rfl⟩ (by kernel_rfl) rfl
    (fun f fn hf hfn => by
      obtain rfl : f = 6 := Option.some.inj ((show Tryd.prog.funcNamed "groundling/groundlinglaw32.AuditParts" = some 6 by kernel_rfl).symm.trans hf) |>.symm
      obtain rfl : fn = Tryd.f6 := (Option.some.inj (Tryd.func6.symm.trans hfn)).symm
      exact ⟨by kernel_rfl, fun j t ht => by
        rw [Tryd.params6] at ht
        have hm : t ∈ [24, 25, 5] := by simpa using Array.mem_of_getElem? ht
        have hall : ([24, 25, 5].all fun u => !Tryd.prog.wantsStandIn u) = true := by kernel_rfl
        exact (show Tryd.prog.wantsStandIn t = false by simpa using List.all_eq_true.1 hall t hm)⟩)
    (by kernel_rfl)
end Go.Proofs.YtcomfhigbjkoeaaDoor
