/-
  No statement is proved here: a state of locks among the arguments, opened. Conditions: none.
-/
import Derived.Test.YtgmjfmajdnoogaaLkA
import Derived.Test.YtgmjfmajdnoogaaLibR
import Derived.Test.YtgmjfmajdnoogaaRows
namespace Go.Proofs.Ytgmjfmajdnoogaa
open Go.RowKit Go.ChangeShapes Go.WideShapes Go.ChangeAt Go.Joins

theorem Try.own : ownKnob Try.prog.godebug = none := by kernel_rfl
theorem Try.laidOut : laidOutB Try.prog = true := by kernel_rfl

theorem bd_of_wf {x : Int} (h : (Lit.int .i64 x).wf = true) : Bd x := by
  simp [Lit.wf, IntKind.min, IntKind.max, IntKind.signed, IntKind.bits] at h
  exact ⟨by omega, by omega⟩

theorem row_at {P : Program} {W : World} {b0 : Nat} {t : TypeId} {cs : Array Value} {ts : List TypeId} (ht : P.cellTypes P.depth t = some ts) (h : Row.okWide P W .any b0 t cs) (i : Nat) (hi : i < ts.length) {v : Value} (hv : cs[i]? = some v) {u : TypeId} (hu : ts[i]? = some u) :
    Cell.okWide P W .any b0 u v := by
  obtain ⟨ts', h1, _, h2⟩ := h
  obtain rfl : ts = ts' := Option.some.inj (ht.symm.trans h1)
  obtain ⟨u', h3, h4⟩ := h2 i v hv
  rw [Nat.mod_eq_of_lt hi, hu] at h3
  injection h3 with h3
  subst h3
  exact h4

section
variable {H : Type} {enc : TypeId × Value → H}

theorem st_open {W : World} {b0 : Nat} {v : Value} {d : DataW H} {p : List MemPlace} (hok : Value.okWide Try.prog W .any b0 25 v) (h : DataW.Trod enc Try.prog W 0 (fun _ => true) true 25 v d p) :
    ∃ v1 v2, ∃ s : St, v = .agg #[v1, v2] ∧ Sl intR W v1 s.hs ∧ Sl wtR W v2 s.ws := by
  have hok' := hok
  obtain ⟨v1, v2, y1, y2, n, rfl, _, _, h1, h2⟩ := open_agg2 Try.underlying25 (by kernel_rfl) (by kernel_rfl) hok h
  simp only [Value.okWide, Try.underlying25] at hok'
  obtain ⟨cs, he, _, hrow⟩ := hok'
  injection he with he
  subst he
  have ht : Try.prog.cellTypes Try.prog.depth 25 = some [22, 23] := by kernel_rfl
  have o1 := row_at ht hrow 0 (by decide) (v := v1) rfl (u := 22) rfl
  have o2 := row_at ht hrow 1 (by decide) (v := v2) rfl (u := 23) rfl
  obtain ⟨hs, hS⟩ := sl_of intR Try.underlying22 (by kernel_rfl) o1 (fun n cs y _ htr => by
    obtain ⟨x, rfl, _, hw⟩ := DataW.trod_int Try.underlying3 htr
    exact ⟨x, rfl, bd_of_wf hw⟩) h1
  obtain ⟨ws, hT⟩ := sl_of wtR Try.underlying23 (by kernel_rfl) o2 (fun n cs y hlen htr => by
    match cs, hlen with
    | [c0, c1], _ =>
      obtain ⟨z0, z1, m, _, _, g0, g1⟩ := trod_struct2 Try.underlying33 htr
      obtain ⟨x, hx, _, hw⟩ := DataW.trod_int Try.underlying3 g0
      obtain ⟨x', hx', _, hw'⟩ := DataW.trod_int Try.underlying3 g1
      have hc : Try.prog.cellsOf 3 = 1 := by kernel_rfl
      simp [hc] at hx hx'
      subst hx hx'
      exact ⟨⟨x, x'⟩, rfl, bd_of_wf hw, bd_of_wf hw'⟩) h2
  exact ⟨v1, v2, ⟨hs, ws⟩, rfl, hS, hT⟩
end
end Go.Proofs.Ytgmjfmajdnoogaa
