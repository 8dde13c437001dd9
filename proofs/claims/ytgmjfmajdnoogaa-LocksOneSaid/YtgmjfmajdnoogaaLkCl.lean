/-
  No statement is proved here: the calls of the laws of locks, as values and among the arguments. Conditions: none.
-/
import Derived.Test.YtgmjfmajdnoogaaLkR
import Derived.Deep.Strs
namespace Go.Proofs.Ytgmjfmajdnoogaa
open Go.RowKit Go.ChangeShapes Go.WideShapes Go.ChangeAt Go.Joins

/-- A call: what, which task, which lock. -/
structure Cl where
  what : Int
  task : Int
  lock : Int

def clR : Rep Cl where
  size := 3
  is _ cs x := cs = [.int .u8 x.what, .int .i64 x.task, .int .i64 x.lock] ∧ (0 ≤ x.what ∧ x.what ≤ 255) ∧ Bd x.task ∧ Bd x.lock
  len h := by rw [h.1]; rfl
  one h := by rw [h.1]; simp [Value.oneCell']
  up _ h := h

theorem Sl.atC {w : World} {A : Option Addr} {n c k : Nat} {xs : List Cl} (h : Sl clR w (.slice A n c) xs) (hk : k < xs.length) :
    ∃ b off, A = some ⟨b, off, .none⟩ ∧ b < w.heap.size ∧ w.cell? ⟨b, off + k * 3, .none⟩ = some (.int .u8 xs[k].what) ∧ w.cell? ⟨b, off + k * 3 + 1, .none⟩ = some (.int .i64 xs[k].task) ∧ w.cell? ⟨b, off + k * 3 + 2, .none⟩ = some (.int .i64 xs[k].lock) ∧
      (0 ≤ xs[k].what ∧ xs[k].what ≤ 255) ∧ Bd xs[k].task ∧ Bd xs[k].lock := by
  obtain ⟨b, off, cs, rfl, hb, ⟨rfl, hx, hy, hz⟩, h2⟩ := h.at_ hk
  exact ⟨b, off, rfl, hb, h2 0 _ rfl, h2 1 _ rfl, h2 2 _ rfl, hx, hy, hz⟩

theorem u8_of_wf {x : Int} (h : (Lit.int .u8 x).wf = true) : 0 ≤ x ∧ x ≤ 255 := by
  simp [Lit.wf, IntKind.min, IntKind.max, IntKind.signed, IntKind.bits] at h
  exact ⟨by omega, by omega⟩

section
variable {H : Type} {enc : TypeId × Value → H}

theorem cl_open {W : World} {b0 : Nat} {v : Value} {d : DataW H} {p : List MemPlace} (hok : Value.okWide Try.prog W .any b0 42 v) (h : DataW.Trod enc Try.prog W 0 (fun _ => true) true 42 v d p) :
    ∃ x : Cl, v = .agg #[.int .u8 x.what, .int .i64 x.task, .int .i64 x.lock] ∧ (0 ≤ x.what ∧ x.what ≤ 255) ∧ Bd x.task ∧ Bd x.lock := by
  obtain ⟨v0, v1, v2, y0, y1, y2, n, rfl, _, _, h0, h1, h2⟩ := open_agg3 Try.underlying42 (by kernel_rfl) (by kernel_rfl) hok h
  obtain ⟨x0, e0, _, w0⟩ := DataW.trod_int Try.underlying5 h0
  obtain ⟨x1, e1, _, w1⟩ := DataW.trod_int Try.underlying3 h1
  obtain ⟨x2, e2, _, w2⟩ := DataW.trod_int Try.underlying3 h2
  injection e0 with e0
  injection e1 with e1
  injection e2 with e2
  subst e0 e1 e2
  exact ⟨⟨x0, x1, x2⟩, rfl, u8_of_wf w0, bd_of_wf w1, bd_of_wf w2⟩

theorem cls_open {W : World} {b0 : Nat} {v : Value} {d : DataW H} {p : List MemPlace} (hok : Value.okWide Try.prog W .any b0 46 v) (h : DataW.Trod enc Try.prog W 0 (fun _ => true) true 46 v d p) :
    ∃ xs : List Cl, Sl clR W v xs := by
  have hok' := hok
  simp only [Value.okWide, Try.underlying46] at hok'
  obtain ⟨a, len, cap, rfl⟩ := okWide_slice Try.underlying46 hok
  obtain ⟨fuel, h⟩ := h
  refine sl_of clR Try.underlying46 (by kernel_rfl) hok' (fun n cs y hlen htr => ?_) (n := fuel) (y := (d, p)) (by simpa [Value.cells] using h)
  match cs, hlen with
  | [c0, c1, c2], _ =>
    obtain ⟨z0, z1, z2, m, _, _, g0, g1, g2⟩ := Go.Deep.trod_struct3 Try.underlying42 htr
    obtain ⟨x0, h0, _, w0⟩ := DataW.trod_int Try.underlying5 g0
    obtain ⟨x1, h1, _, w1⟩ := DataW.trod_int Try.underlying3 g1
    obtain ⟨x2, h2, _, w2⟩ := DataW.trod_int Try.underlying3 g2
    have hc : Try.prog.cellsOf 3 = 1 := by kernel_rfl
    have hc' : Try.prog.cellsOf 5 = 1 := by kernel_rfl
    simp [hc] at h1 h2
    simp [hc'] at h0
    subst h0 h1 h2
    exact ⟨⟨x0, x1, x2⟩, rfl, u8_of_wf w0, bd_of_wf w1, bd_of_wf w2⟩

theorem num_open {k : IntKind} {t : TypeId} (ht : Try.prog.underlying t = some (.int k)) {W : World} {b0 : Nat} {v : Value} {d : DataW H} {p : List MemPlace} (hok : Value.okWide Try.prog W .any b0 t v) (h : DataW.Trod enc Try.prog W 0 (fun _ => true) true t v d p) :
    ∃ x : Int, v = .int k x ∧ (Lit.int k x).wf = true := by
  simp only [Value.okWide, ht, Cell.okWide, Cell.ok] at hok
  cases v <;> simp at hok
  rename_i k' x
  obtain ⟨fuel, h⟩ := h
  obtain ⟨x', e, _, w⟩ := DataW.trod_int ht h
  simp [Value.cells] at e
  obtain ⟨rfl, rfl⟩ := e
  exact ⟨_, rfl, w⟩
end
end Go.Proofs.Ytgmjfmajdnoogaa
