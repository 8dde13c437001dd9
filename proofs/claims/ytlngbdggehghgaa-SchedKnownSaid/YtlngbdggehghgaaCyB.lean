/-
  The law of the examples (SchedKnown), in company. Conditions: as each theorem says.
-/
import Derived.Test.YtlngbdggehghgaaCyA
namespace Go.Proofs.Ytlngbdggehghgaa
set_option linter.unusedSimpArgs false
set_option linter.unusedVariables false
namespace Co
open Go.Conc Go.RowKit
noncomputable def body28 : Code := Try.f28.body.getD .skip
set_option maxRecDepth 100000 in
set_option maxHeartbeats 8000000 in
theorem sameLog_co {Z : Goal} {X : Fx} {v : World} {v1 v2 : Value} {xs ys : List Tn} (hZ : Z.Ok Try.prog) (hX : X.Ok Try.prog 0) (h1 : Sl tnR v v1 xs) (h2 : Sl tnR v v2 ys) (he : xs = ys) : Calls Try.prog Z 0 X 28 #[v1, v2] v fun e X' v' => X' = X ∧ e = .bool true ∧ Chg (fun _ => False) v v' := by
  intro c cs hpost
  subst he
  have HP := Hd.mk hpost
  clear hpost
  obtain ⟨A, c1, rfl, hc, hm, h1⟩ := h1.open
  obtain ⟨A', c2, rfl, hc', hm', h2⟩ := h2.open
  have H1 := Lib.hid h1
  have H2 := Lib.hid h2
  clear h1 h2
  rw [enter_at _ Try.func28 (by kernel_rfl : Try.f28.body = some body28), Try.ntmps28]
  walk_nrm
  simp only [body28, Try.f28, Option.getD_some]
  refine co_seq hZ hX ?_
  refine co_code hZ hX TT (by decide) (by kernel_rfl) (by kernel_rfl) fun K hK u hu => ?_
  go_wp2_with fail
  refine hK.out _ _ (co_same hu ?_)
  clear hK K hu u
  refine co_seq hZ hX ?_
  refine co_codeR hZ hX TT rfl (by kernel_rfl) (by kernel_rfl) fun K hK u hu => ?_
  go_wp2_with fail
  refine hK.out _ _ (co_same hu ?_)
  clear hK K hu u
  refine co_seq hZ hX ?_
  refine co_codeR hZ hX TT rfl (by kernel_rfl) (by kernel_rfl) fun K hK u hu => ?_
  have C0 := Hd.mk (same_chg (F := fun _ => False) hu)
  clear hu
  go_wp2_with fail
  go_loopw [5] (fun i wr => ∃ k : Nat, k ≤ xs.length ∧ i = .int .i64 k ∧ Hid (Below u.heap.size u wr)) (fun i _ => xs.length - (intOf i).toNat)
  case atStart => exact ⟨0, by omega, rfl, Below.refl _ _⟩
  case round =>
    obtain ⟨k, hk, rfl, hb⟩ := hrel
    by_cases hlt : k < xs.length
    · obtain ⟨g, off, cs, rfl, _, p2, p3⟩ := ((H1.out.chg tnR_flat C0.out (fun _ _ => id)).up hb.out).at_ hlt
      obtain ⟨g', off', cs', rfl, _, q2, q3⟩ := ((H2.out.chg tnR_flat C0.out (fun _ _ => id)).up hb.out).at_ hlt
      generalize xs[k] = a at p2 q2
      have a0 := p3 0 _ (by rw [p2]; rfl)
      have a1 := p3 1 _ (by rw [p2]; rfl)
      have a2 := p3 2 _ (by rw [p2]; rfl)
      have a3 := p3 3 _ (by rw [p2]; rfl)
      have a4 := p3 4 _ (by rw [p2]; rfl)
      have d0 := q3 0 _ (by rw [q2]; rfl)
      have d1 := q3 1 _ (by rw [q2]; rfl)
      have d2 := q3 2 _ (by rw [q2]; rfl)
      have d3 := q3 3 _ (by rw [q2]; rfl)
      have d4 := q3 4 _ (by rw [q2]; rfl)
      simp only [tnR, Nat.add_zero] at a0 d0 a1 d1 a2 d2 a3 d3 a4 d4
      clear p2 p3 q2 q3
      have hneq := neq_tn a a
      simp only [decide_true, Bool.not_true] at hneq
      go_wp2_with fail
      go_quiet (fail)
      go_wp2_with fail
      go_roundw
      case rel => exact ⟨k + 1, by omega, by go_num, bdN hb.out _⟩
      case measure => simp [intOf]; omega
    · have hke : k = xs.length := by omega
      clear hlt
      go_wp2_with fail
      refine hK.out _ _ ?_
      subst hke
      have C1 := Hd.mk (C0.out.trans (Chg.of_below (F := fun _ => False) hb.out) (fun _ _ => id))
      refine co_seq hZ hX ?_
      refine co_code hZ hX TT (by decide) (by kernel_rfl) (by kernel_rfl) fun K hK u hu => ?_
      go_wp2_with fail
      refine hK.out _ _ (co_same hu ?_)
      refine co_ret hZ hX ?_
      refine c_leave (n := 0) (J := fun _ a => Co Try.prog Z 0 X a wr) (Co.calmly hZ hX) (x := .bool true) rfl rfl Try.func28 (fun w => by simp [results, Try.results28, go_sem]) (fun w => by simp [results, Try.results28, go_sem]) ?_
      exact HP.out _ _ wr ⟨rfl, rfl, C1.out⟩
def sB3 : SS := (pickS D0 sA2 x0 5).1
def sR : SS := (runS D0 [0, 0, 0] 0 sA1 x0).2.1
def sF : SS := (FairS D0 10 sA1 x0).2.1
def logL : List Tn := [⟨1, ⟨0, 0, 0⟩, 2⟩, ⟨2, ⟨0, 0, 0⟩, 2⟩, ⟨1, ⟨0, 0, 0⟩, 1⟩]
theorem k_age : ageS sA2 1 = 1 := by kernel_rfl
theorem k_find : findS sA2 1 = 0 := by kernel_rfl
theorem k_pe : pickE D0 sA2 x0 5 = 0 := by kernel_rfl
theorem k_pi : (if pickE D0 sA2 x0 5 = 0 then (pickI D0 sA2 x0 5 : Int) + 1 else 0) = 1 := by kernel_rfl
theorem k_px : (pickS D0 sA2 x0 5).2 = x0 := by kernel_rfl
theorem k_task : taskS sB3 1 = (⟨1, 0, 0, 1, 2, 0, 0⟩, ⟨0, 0, 0⟩) := by kernel_rfl
theorem k_find3 : findS sB3 1 = 0 := by kernel_rfl
theorem k_c3 : sB3.closed = false := by kernel_rfl
theorem k_al3 : (alI sB3).length = 1 := by kernel_rfl
theorem k_run : (runS D0 [0, 0, 0] 0 sA1 x0).1 = (3, 0) := by kernel_rfl
theorem k_runx : (runS D0 [0, 0, 0] 0 sA1 x0).2.2 = x0 := by kernel_rfl
theorem k_rc : sR.closed = false := by kernel_rfl
theorem k_re : pickE D0 sR x0 0 = 4 := by kernel_rfl
theorem k_ri : (if pickE D0 sR x0 0 = 0 then (pickI D0 sR x0 0 : Int) + 1 else 0) = 0 := by kernel_rfl
theorem k_rs : pickS D0 sR x0 0 = (sR, x0) := by kernel_rfl
theorem k_st : stuckS sR none x0 = [] := by kernel_rfl
theorem k_rr : readyS sR = 0 := by kernel_rfl
theorem k_ral : (alI sR).length = 0 := by kernel_rfl
theorem k_f : (FairS D0 10 sA1 x0).1 = (3, 4) := by kernel_rfl
theorem k_fx : (FairS D0 10 sA1 x0).2.2 = x0 := by kernel_rfl
theorem k_fc : sF.closed = false := by kernel_rfl
theorem k_fr : readyS sF = 0 := by kernel_rfl
theorem k_ft : sF.turns = logL := by kernel_rfl
noncomputable def body9 : Code := Try.f9.body.getD .skip
theorem lit3 (w : World) (a b c : Int) (ha : Bd a) (hb : Bd b) (hc : Bd c) : Sl intR (w.alloc (.cells #[.int .i64 a, .int .i64 b, .int .i64 c] 3)) (.slice (some ⟨w.heap.size, 0, none⟩) 3 3) [a, b, c] := by
  exact (Own.lit (e := 3) (R := intR) (B := w.heap.size) (cells := [.int .i64 a] ++ ([.int .i64 b] ++ [.int .i64 c])) rfl (Nat.le_refl _) (many_cons (R := intR) (x := a) ⟨rfl, ha⟩ (many_cons (R := intR) (x := b) ⟨rfl, hb⟩ (Rep.many_one (R := intR) (x := c) ⟨rfl, hc⟩))) rfl (by simp)).sl
theorem kn_bd (k : Int) (hk : k ∈ [(0 : Int), 0, 0]) : Bd k := by
  have : k = 0 := by simpa using hk
  subst this
  unfold Bd
  decide
set_option maxRecDepth 100000 in
set_option maxHeartbeats 8000000 in
/-- ████ SchedKnown. ████ -/
theorem known_co (v : World) : LawCo 9 #[] v := by
  intro Z g hZ L hF
  have hX := L.ok.fx κL_ok
  have KP := Kp.refl v
  rw [enter_at _ Try.func9 (by kernel_rfl : Try.f9.body = some body9), Try.ntmps9]
  walk_nrm
  simp only [body9, Try.f9, Option.getD_some]
  refine co_seq hZ hX ?_
  refine co_code hZ hX TT (by decide) (by kernel_rfl) (by kernel_rfl) fun K hK u hu => ?_
  go_wp2_with fail
  refine hK.out _ _ (co_same hu ?_)
  clear hK K hu u
  refine co_seq hZ hX ?_
  refine c_region (n := 0) (J := fun _ a => Co Try.prog Z 0 (g.fx Try.prog κL 0) a v) (Co.calmly hZ hX) [0, 1, 2, 3, 4, 5, 6, 7, 8] rfl ?_
  refine co_value hZ hX (.agg #[]) rfl rfl (by decide) (fun _ => by simp [go_sem, execOp, Act.eval]) (fun _ => by simp [go_sem, execOp, Act.eval]) ?_
  walk_nrm
  refine co_op hZ hX TT.toTable (by decide) (R := fun y u => y = .iface 71 (.agg #[]) ∧ Same u v) rfl rfl (by kernel_rfl) (fun u hu => ⟨.iface 71 (.agg #[]), u, ?_, rfl, hu⟩) (fun y u hh => ?_)
  · first | (simp [go_sem, execOp, Act.eval]; done) | kernel_rfl
  obtain ⟨rfl, hu⟩ := hh
  refine co_same hu ?_
  clear hu u
  walk_nrm
  refine co_call2 hZ hX rfl rfl (by decide) rfl Try.func22 (by kernel_rfl) (by kernel_rfl) (vals := #[]) (by simp [Act.eval]) ?_
  refine two_co hZ hX _ _ fun lv X' t1 hq => ?_
  obtain ⟨rfl, hlv, hcv⟩ := hq
  rw [Frame.finish_at]
  walk_nrm
  refine co_call2 hZ hX rfl rfl (by decide) rfl Try.func21 (by kernel_rfl) (by kernel_rfl) (vals := #[.iface 71 (.agg #[]), lv, .int .i64 50]) (by simp [Act.eval]) ?_
  refine New_co (D := D0) (x := x0) (F := fun _ => False) (l := twoL) (most := 50) D0_ok hZ L hlv.sl (by decide) (by decide) (fun _ => id) (fun r hr => by
    have : r.wait.obj = 0 := begS_all (p := fun r => r.wait.obj = 0) (fun _ _ => rfl) twoL (S0 50) (fun r hr => by cases hr) r hr
    omega) _ _ fun e X' n1 hq => ?_
  obtain ⟨rfl, hA⟩ := hq
  rw [Frame.finish_at]
  walk_nrm
  have KP := KP.still hcv
  have hBs : v.heap.size ≤ t1.heap.size := KP.le
  generalize t1.heap.size = s1 at hA hBs ⊢
  obtain ⟨g1, bs1, M1, rfl, L1, c1, m1⟩ := hA.open D0_ok
  have hX1 := L1.ok
  have N1 : ∀ k, M1 k → v.heap.size ≤ k := KP.far (fun k (e : False ∨ s1 ≤ k) => e.elim False.elim (Nat.le_trans hBs)) m1
  have KP := KP.up c1 (fun k e => e.elim False.elim (Nat.le_trans hBs))
  replace L1 : Liv D0 _ g1 s1 bs1 sA1 x0 M1 n1 := L1
  refine co_value hZ hX1 (.tuple #[.pointer (some ⟨s1, 0, none⟩), .int .i64 0]) rfl rfl (by decide) (fun _ => by simp [go_sem, execOp, Act.eval]) (fun _ => by simp [go_sem, execOp, Act.eval]) ?_
  walk_nrm
  refine co_value hZ hX1 (.pointer (some ⟨s1, 0, none⟩)) rfl rfl (by decide) (fun _ => by simp [go_sem, execOp, Act.eval]) (fun _ => by simp [go_sem, execOp, Act.eval]) ?_
  walk_nrm
  refine co_value hZ hX1 (.int .i64 0) rfl rfl (by decide) (fun _ => by simp [go_sem, execOp, Act.eval]) (fun _ => by simp [go_sem, execOp, Act.eval]) ?_
  walk_nrm
  refine co_value hZ hX1 (.pointer (some ⟨s1, 0, none⟩)) rfl rfl (by decide) (fun _ => by simp [go_sem, execOp, Act.eval]) (fun _ => by simp [go_sem, execOp, Act.eval]) ?_
  walk_nrm
  refine co_value hZ hX1 (.int .i64 0) rfl rfl (by decide) (fun _ => by simp [go_sem, execOp, Act.eval]) (fun _ => by simp [go_sem, execOp, Act.eval]) ?_
  walk_nrm
  refine co_region_end hZ hX1 ?_
  refine co_seq hZ hX1 ?_
  refine co_codeR hZ hX1 TT rfl (by kernel_rfl) (by kernel_rfl) fun K hK u hu => ?_
  go_wp2_with fail
  refine hK.out _ _ (co_same hu ?_)
  clear hK K hu u
  refine co_seq hZ hX1 ?_
  refine c_region (n := 0) (J := fun _ a => Co Try.prog Z 0 (g1.fx Try.prog κL 0) a n1) (Co.calmly hZ hX1) [0, 1, 2, 3, 4, 5, 6] rfl ?_
  refine co_value hZ hX1 (.pointer (some ⟨s1, 0, none⟩)) rfl rfl (by decide) (fun _ => by simp [go_sem, execOp, Act.eval]) (fun _ => by simp [go_sem, execOp, Act.eval]) ?_
  walk_nrm
  refine co_call2 hZ hX1 rfl rfl (by decide) rfl Try.func18 (by kernel_rfl) (by kernel_rfl) (vals := #[.pointer (some ⟨s1, 0, none⟩), .int .i64 1]) (by simp [Act.eval]) ?_
  refine Pick_co D0_ok hZ L1.sch a_c1 (by unfold Bd; decide) _ _ fun e X' p2 hq => ?_
  obtain ⟨rfl, hA⟩ := hq
  rw [show (if pickE D0 sA1 x0 1 = 0 then (pickI D0 sA1 x0 1 : Int) + 1 else 0) = 2 by kernel_rfl, show pickE D0 sA1 x0 1 = 0 by kernel_rfl]
  rw [a_px] at hA
  rw [Frame.finish_at]
  walk_nrm
  obtain ⟨g2, bs2, M2, rfl, L2, c2, m2⟩ := hA.open D0_ok
  have hX2 := L2.ok
  have N2 := KP.far N1 m2
  have KP := KP.up c2 N1
  replace L2 : Liv D0 _ g2 s1 bs2 sA2 x0 M2 p2 := L2
  refine co_value hZ hX2 (.tuple #[.int .i64 2, .int .i64 0]) rfl rfl (by decide) (fun _ => by simp [go_sem, execOp, Act.eval]) (fun _ => by simp [go_sem, execOp, Act.eval]) ?_
  walk_nrm
  refine co_value hZ hX2 (.int .i64 2) rfl rfl (by decide) (fun _ => by simp [go_sem, execOp, Act.eval]) (fun _ => by simp [go_sem, execOp, Act.eval]) ?_
  walk_nrm
  refine co_value hZ hX2 (.int .i64 0) rfl rfl (by decide) (fun _ => by simp [go_sem, execOp, Act.eval]) (fun _ => by simp [go_sem, execOp, Act.eval]) ?_
  walk_nrm
  refine co_value hZ hX2 (.int .i64 2) rfl rfl (by decide) (fun _ => by simp [go_sem, execOp, Act.eval]) (fun _ => by simp [go_sem, execOp, Act.eval]) ?_
  walk_nrm
  refine co_value hZ hX2 (.int .i64 0) rfl rfl (by decide) (fun _ => by simp [go_sem, execOp, Act.eval]) (fun _ => by simp [go_sem, execOp, Act.eval]) ?_
  walk_nrm
  refine co_region_end hZ hX2 ?_
  refine co_seq hZ hX2 ?_
  obtain ⟨tvx, uvx, Fx1, hS, _, _⟩ := L2.sm
  refine co_code hZ hX2 TT (by decide) (by kernel_rfl) (by kernel_rfl) fun K hK u hu => ?_
  have C0 := same_chg (F := fun _ => False) hu
  have R := Age_any (hS.chg C0 (fun _ _ => id)) 1 (by unfold Bd; decide)
  rw [k_age, k_find] at R
  have R := Lib.hid R
  have C0 := Hd.mk C0
  have hlt := Hd.mk (fun k (hk : M2 k) => (show k < u.heap.size by rw [hu.heap]; exact L2.lt k hk))
  clear hu hS
  go_wp2_with (go_at_call 14; refine R.out.mono ?_; rintro e w2 ⟨rfl, hb⟩; have HB := Hd.mk hb; clear hb)
  refine hK.out _ _ ?_
  have C1 := C0.out.trans (Chg.of_below (F := fun _ => False) HB.out) (fun _ _ => id)
  have KP := KP.still C1
  have L2 := L2.still D0_ok C1
  clear hK K R C0 HB C1 hlt
  refine co_seq hZ hX2 ?_
  refine c_region (n := 0) (J := fun _ a => Co Try.prog Z 0 (g2.fx Try.prog κL 0) a w2) (Co.calmly hZ hX2) [0, 1, 2, 3, 4, 5, 6] rfl ?_
  refine co_value hZ hX2 (.pointer (some ⟨s1, 0, none⟩)) rfl rfl (by decide) (fun _ => by simp [go_sem, execOp, Act.eval]) (fun _ => by simp [go_sem, execOp, Act.eval]) ?_
  walk_nrm
  refine co_call2 hZ hX2 rfl rfl (by decide) rfl Try.func18 (by kernel_rfl) (by kernel_rfl) (vals := #[.pointer (some ⟨s1, 0, none⟩), .int .i64 5]) (by simp [Act.eval]) ?_
  refine Pick_co D0_ok hZ L2.sch a_c2 (by unfold Bd; decide) _ _ fun e X' p3 hq => ?_
  obtain ⟨rfl, hA⟩ := hq
  rw [k_pi, k_pe]
  rw [k_px] at hA
  rw [Frame.finish_at]
  walk_nrm
  obtain ⟨g3, bs3, M3, rfl, L3, c3, m3⟩ := hA.open D0_ok
  have hX3 := L3.ok
  have N3 := KP.far N2 m3
  have KP := KP.up c3 N2
  replace L3 : Liv D0 _ g3 s1 bs3 sB3 x0 M3 p3 := L3
  refine co_value hZ hX3 (.tuple #[.int .i64 1, .int .i64 0]) rfl rfl (by decide) (fun _ => by simp [go_sem, execOp, Act.eval]) (fun _ => by simp [go_sem, execOp, Act.eval]) ?_
  walk_nrm
  refine co_value hZ hX3 (.int .i64 1) rfl rfl (by decide) (fun _ => by simp [go_sem, execOp, Act.eval]) (fun _ => by simp [go_sem, execOp, Act.eval]) ?_
  walk_nrm
  refine co_value hZ hX3 (.int .i64 0) rfl rfl (by decide) (fun _ => by simp [go_sem, execOp, Act.eval]) (fun _ => by simp [go_sem, execOp, Act.eval]) ?_
  walk_nrm
  refine co_value hZ hX3 (.int .i64 1) rfl rfl (by decide) (fun _ => by simp [go_sem, execOp, Act.eval]) (fun _ => by simp [go_sem, execOp, Act.eval]) ?_
  walk_nrm
  refine co_value hZ hX3 (.int .i64 0) rfl rfl (by decide) (fun _ => by simp [go_sem, execOp, Act.eval]) (fun _ => by simp [go_sem, execOp, Act.eval]) ?_
  walk_nrm
  refine co_region_end hZ hX3 ?_
  refine co_seq hZ hX3 ?_
  obtain ⟨tvx, uvx, Fx1, hS, _, _⟩ := L3.sm
  refine co_code hZ hX3 TT (by decide) (by kernel_rfl) (by kernel_rfl) fun K hK u hu => ?_
  have C0 := same_chg (F := fun _ => False) hu
  have R := Task_any (hS.chg C0 (fun _ _ => id)) 1 (by unfold Bd; decide)
  rw [k_task, k_find3] at R
  simp only [Tk.cells, Wa.cells] at R
  have R := Lib.hid R
  have C0 := Hd.mk C0
  have hlt := Hd.mk (fun k (hk : M3 k) => (show k < u.heap.size by rw [hu.heap]; exact L3.lt k hk))
  clear hu hS
  go_wp2_with (go_at_call 13; refine R.out.mono ?_; rintro e w3 ⟨rfl, hb⟩; have HB := Hd.mk hb; clear hb)
  refine hK.out _ _ ?_
  have C1 := C0.out.trans (Chg.of_below (F := fun _ => False) HB.out) (fun _ _ => id)
  have KP := KP.still C1
  have L3 := L3.still D0_ok C1
  have f8 : ¬ M3 w3.heap.size := fun e => by have := hlt.out _ e; have := HB.out.size; omega
  have f9 : ¬ M3 (w3.heap.size + 1) := fun e => by have := hlt.out _ e; have := HB.out.size; omega
  have C2 := (Chg.alloc (fun _ => False) w3 (.cells #[.int .i64 1, .int .i64 0, .int .i64 0, .int .i64 1, .int .i64 2, .int .i64 0, .int .i64 0] 35)).trans (Chg.alloc (fun _ => False) _ (.cells #[.int .i64 0, .int .i64 0, .int .i64 0] 37)) (fun _ _ => id)
  have KP := KP.still C2
  have L3 := L3.still D0_ok C2
  have hz : (w3.alloc (.cells #[.int .i64 1, .int .i64 0, .int .i64 0, .int .i64 1, .int .i64 2, .int .i64 0, .int .i64 0] 35)).heap.size = w3.heap.size + 1 := alloc_size _ _
  have d8 : ((w3.alloc (.cells #[.int .i64 1, .int .i64 0, .int .i64 0, .int .i64 1, .int .i64 2, .int .i64 0, .int .i64 0] 35)).alloc (.cells #[.int .i64 0, .int .i64 0, .int .i64 0] 37)).cell? ⟨w3.heap.size, 3, none⟩ = some (.int .i64 1) := by
    refine (Chg.alloc (fun _ => False) _ _).cell (F := fun _ => False) ?_ id
    unfold World.cell?
    rw [alloc_new]
    rfl
  have d9 : ((w3.alloc (.cells #[.int .i64 1, .int .i64 0, .int .i64 0, .int .i64 1, .int .i64 2, .int .i64 0, .int .i64 0] 35)).alloc (.cells #[.int .i64 0, .int .i64 0, .int .i64 0] 37)).cell? ⟨w3.heap.size + 1, 0, none⟩ = some (.int .i64 0) := by
    unfold World.cell?
    rw [← hz, alloc_new]
    rfl
  clear hK K R C0 HB C1 hlt C2 hz
  generalize (w3.alloc (.cells #[.int .i64 1, .int .i64 0, .int .i64 0, .int .i64 1, .int .i64 2, .int .i64 0, .int .i64 0] 35)).alloc (.cells #[.int .i64 0, .int .i64 0, .int .i64 0] 37) = w4 at KP L3 d8 d9 ⊢
  generalize w3.heap.size = q8 at d8 d9 f8 f9 ⊢
  refine co_seq hZ hX3 ?_
  refine c_region (n := 0) (J := fun _ a => Co Try.prog Z 0 (g3.fx Try.prog κL 0) a w4) (Co.calmly hZ hX3) [0, 1] rfl ?_
  refine co_value hZ hX3 (.pointer (some ⟨s1, 0, none⟩)) rfl rfl (by decide) (fun _ => by simp [go_sem, execOp, Act.eval]) (fun _ => by simp [go_sem, execOp, Act.eval]) ?_
  walk_nrm
  refine co_call2 hZ hX3 rfl rfl (by decide) rfl Try.func15 (by kernel_rfl) (by kernel_rfl) (vals := #[.pointer (some ⟨s1, 0, none⟩)]) (by simp [Act.eval]) ?_
  refine Close_co D0_ok hZ L3.sch k_c3 _ _ fun e X' v5 hq => ?_
  obtain ⟨rfl, ga, rfl, Lga, _, cga⟩ := hq
  rw [k_al3]
  have hXga := Lga.ok.fx κL_ok
  have KP := KP.up cga N3
  rw [Frame.finish_at]
  walk_nrm
  refine co_region_end hZ hXga ?_
  have d8 := cga.cell d8 f8
  have d9 := cga.cell d9 f9
  refine co_seq hZ hXga ?_
  refine co_codeR hZ hXga TT rfl (by kernel_rfl) (by kernel_rfl) fun K hK u hu => ?_
  have d8 := (same_chg (F := fun _ => False) hu).cell d8 id
  have d9 := (same_chg (F := fun _ => False) hu).cell d9 id
  go_wp2_with fail
  refine hK.out _ _ (co_same hu ?_)
  clear d8 d9 hK K hu u
  clear f8 f9
  refine co_seq hZ hXga ?_
  refine c_region (n := 0) (J := fun _ a => Co Try.prog Z 0 (ga.fx Try.prog κL 0) a v5) (Co.calmly hZ hXga) [0, 1, 2, 3, 4, 5, 6, 7, 8] rfl ?_
  refine co_value hZ hXga (.agg #[]) rfl rfl (by decide) (fun _ => by simp [go_sem, execOp, Act.eval]) (fun _ => by simp [go_sem, execOp, Act.eval]) ?_
  walk_nrm
  refine co_op hZ hXga TT.toTable (by decide) (R := fun y u => y = .iface 71 (.agg #[]) ∧ Same u v5) rfl rfl (by kernel_rfl) (fun u hu => ⟨.iface 71 (.agg #[]), u, ?_, rfl, hu⟩) (fun y u hh => ?_)
  · first | (simp [go_sem, execOp, Act.eval]; done) | kernel_rfl
  obtain ⟨rfl, hu⟩ := hh
  refine co_same hu ?_
  clear hu u
  walk_nrm
  refine co_call2 hZ hXga rfl rfl (by decide) rfl Try.func22 (by kernel_rfl) (by kernel_rfl) (vals := #[]) (by simp [Act.eval]) ?_
  refine two_co hZ hXga _ _ fun lv X' t5 hq => ?_
  obtain ⟨rfl, hlv, hcv⟩ := hq
  rw [Frame.finish_at]
  walk_nrm
  refine co_call2 hZ hXga rfl rfl (by decide) rfl Try.func21 (by kernel_rfl) (by kernel_rfl) (vals := #[.iface 71 (.agg #[]), lv, .int .i64 50]) (by simp [Act.eval]) ?_
  refine New_co (D := D0) (x := x0) (F := fun _ => False) (l := twoL) (most := 50) D0_ok hZ Lga hlv.sl (by decide) (by decide) (fun _ => id) (fun r hr => by
    have : r.wait.obj = 0 := begS_all (p := fun r => r.wait.obj = 0) (fun _ _ => rfl) twoL (S0 50) (fun r hr => by cases hr) r hr
    omega) _ _ fun e X' n5 hq => ?_
  obtain ⟨rfl, hA⟩ := hq
  rw [Frame.finish_at]
  walk_nrm
  have KP := KP.still hcv
  have hBs : v.heap.size ≤ t5.heap.size := KP.le
  generalize t5.heap.size = s5 at hA hBs ⊢
  obtain ⟨g5, bs5, M5, rfl, L5, c5, m5⟩ := hA.open D0_ok
  have hX5 := L5.ok
  have N5 : ∀ k, M5 k → v.heap.size ≤ k := KP.far (fun k (e : False ∨ s5 ≤ k) => e.elim False.elim (Nat.le_trans hBs)) m5
  have KP := KP.up c5 (fun k e => e.elim False.elim (Nat.le_trans hBs))
  replace L5 : Liv D0 _ g5 s5 bs5 sA1 x0 M5 n5 := L5
  refine co_value hZ hX5 (.tuple #[.pointer (some ⟨s5, 0, none⟩), .int .i64 0]) rfl rfl (by decide) (fun _ => by simp [go_sem, execOp, Act.eval]) (fun _ => by simp [go_sem, execOp, Act.eval]) ?_
  walk_nrm
  refine co_value hZ hX5 (.pointer (some ⟨s5, 0, none⟩)) rfl rfl (by decide) (fun _ => by simp [go_sem, execOp, Act.eval]) (fun _ => by simp [go_sem, execOp, Act.eval]) ?_
  walk_nrm
  refine co_value hZ hX5 (.int .i64 0) rfl rfl (by decide) (fun _ => by simp [go_sem, execOp, Act.eval]) (fun _ => by simp [go_sem, execOp, Act.eval]) ?_
  walk_nrm
  refine co_value hZ hX5 (.pointer (some ⟨s5, 0, none⟩)) rfl rfl (by decide) (fun _ => by simp [go_sem, execOp, Act.eval]) (fun _ => by simp [go_sem, execOp, Act.eval]) ?_
  walk_nrm
  refine co_value hZ hX5 (.int .i64 0) rfl rfl (by decide) (fun _ => by simp [go_sem, execOp, Act.eval]) (fun _ => by simp [go_sem, execOp, Act.eval]) ?_
  walk_nrm
  refine co_region_end hZ hX5 ?_
  refine co_seq hZ hX5 ?_
  refine c_region (n := 0) (J := fun _ a => Co Try.prog Z 0 (g5.fx Try.prog κL 0) a n5) (Co.calmly hZ hX5) [0, 1, 2, 3, 4, 5, 6, 7] rfl ?_
  refine co_value hZ hX5 (.pointer (some ⟨s5, 0, none⟩)) rfl rfl (by decide) (fun _ => by simp [go_sem, execOp, Act.eval]) (fun _ => by simp [go_sem, execOp, Act.eval]) ?_
  walk_nrm
  refine co_op hZ hX5 TT.toTable (by decide) (R := fun y u => y = .slice (some ⟨n5.heap.size, 0, none⟩) 3 3 ∧ Same u (n5.alloc (.cells #[.int .i64 0, .int .i64 0, .int .i64 0] 3))) rfl rfl (by kernel_rfl) (fun u hu => ⟨.slice (some ⟨u.heap.size, 0, none⟩) 3 3, u.alloc (.cells #[.int .i64 0, .int .i64 0, .int .i64 0] 3), ?_, by rw [hu.heap], hu.alloc _⟩) (fun y u hh => ?_)
  · first | (simp [go_sem, execOp, Act.eval]; done) | kernel_rfl
  obtain ⟨rfl, hu⟩ := hh
  refine co_same hu ?_
  clear hu u
  walk_nrm
  have HL := lit3 n5 0 0 0 (by unfold Bd; decide) (by unfold Bd; decide) (by unfold Bd; decide)
  have C1 := Chg.alloc (fun _ => False) n5 (.cells #[.int .i64 0, .int .i64 0, .int .i64 0] 3)
  have f0 : ∀ k, (Value.slice (some ⟨n5.heap.size, 0, none⟩) 3 3).ownBlock = some k → ¬ M5 k ∧ k < (n5.alloc (.cells #[.int .i64 0, .int .i64 0, .int .i64 0] 3)).heap.size := fun k hk => by
    have hk : n5.heap.size = k := by simpa [Value.ownBlock] using hk
    subst hk
    exact ⟨fun e => Nat.lt_irrefl _ (L5.lt _ e), by rw [alloc_size]; exact Nat.lt_succ_self _⟩
  have KP := KP.still C1
  have L5 := L5.still D0_ok C1
  generalize n5.alloc (.cells #[.int .i64 0, .int .i64 0, .int .i64 0] 3) = n6 at HL f0 KP L5 ⊢
  generalize n5.heap.size = q5 at HL f0 ⊢
  refine co_call2 hZ hX5 rfl rfl (by decide) rfl Try.func19 (by kernel_rfl) (by kernel_rfl) (vals := #[.pointer (some ⟨s5, 0, none⟩), .slice (some ⟨q5, 0, none⟩) 3 3]) (by simp [Act.eval]) ?_
  refine Run_co (ks := [0, 0, 0]) D0_ok hZ L5.sch a_c1 (by decide) (fun k hk => kn_bd k hk) HL f0 _ _ fun e X' p6 hq => ?_
  obtain ⟨rfl, hA⟩ := hq
  rw [k_run]
  rw [k_runx] at hA
  clear HL f0 C1
  rw [Frame.finish_at]
  walk_nrm
  obtain ⟨g6, bs6, M6, rfl, L6, c6, m6⟩ := hA.open D0_ok
  have hX6 := L6.ok
  have N6 := KP.far N5 m6
  have KP := KP.up c6 N5
  replace L6 : Liv D0 _ g6 s5 bs6 sR x0 M6 p6 := L6
  refine co_value hZ hX6 (.tuple #[.int .i64 3, .int .i64 0]) rfl rfl (by decide) (fun _ => by simp [go_sem, execOp, Act.eval]) (fun _ => by simp [go_sem, execOp, Act.eval]) ?_
  walk_nrm
  refine co_value hZ hX6 (.int .i64 3) rfl rfl (by decide) (fun _ => by simp [go_sem, execOp, Act.eval]) (fun _ => by simp [go_sem, execOp, Act.eval]) ?_
  walk_nrm
  refine co_value hZ hX6 (.int .i64 0) rfl rfl (by decide) (fun _ => by simp [go_sem, execOp, Act.eval]) (fun _ => by simp [go_sem, execOp, Act.eval]) ?_
  walk_nrm
  refine co_value hZ hX6 (.int .i64 3) rfl rfl (by decide) (fun _ => by simp [go_sem, execOp, Act.eval]) (fun _ => by simp [go_sem, execOp, Act.eval]) ?_
  walk_nrm
  refine co_value hZ hX6 (.int .i64 0) rfl rfl (by decide) (fun _ => by simp [go_sem, execOp, Act.eval]) (fun _ => by simp [go_sem, execOp, Act.eval]) ?_
  walk_nrm
  refine co_region_end hZ hX6 ?_
  refine co_seq hZ hX6 ?_
  refine c_region (n := 0) (J := fun _ a => Co Try.prog Z 0 (g6.fx Try.prog κL 0) a p6) (Co.calmly hZ hX6) [0, 1, 2, 3, 4, 5] rfl ?_
  refine co_value hZ hX6 (.pointer (some ⟨s5, 0, none⟩)) rfl rfl (by decide) (fun _ => by simp [go_sem, execOp, Act.eval]) (fun _ => by simp [go_sem, execOp, Act.eval]) ?_
  walk_nrm
  refine co_call2 hZ hX6 rfl rfl (by decide) rfl Try.func18 (by kernel_rfl) (by kernel_rfl) (vals := #[.pointer (some ⟨s5, 0, none⟩), .int .i64 0]) (by simp [Act.eval]) ?_
  refine Pick_co D0_ok hZ L6.sch k_rc (by unfold Bd; decide) _ _ fun e X' p7 hq => ?_
  obtain ⟨rfl, hA⟩ := hq
  rw [k_ri, k_re]
  rw [k_rs] at hA
  rw [Frame.finish_at]
  walk_nrm
  obtain ⟨g7, bs7, M7, rfl, L7, c7, m7⟩ := hA.open D0_ok
  have hX7 := L7.ok
  have N7 := KP.far N6 m7
  have KP := KP.up c7 N6
  replace L7 : Liv D0 _ g7 s5 bs7 sR x0 M7 p7 := L7
  refine co_value hZ hX7 (.tuple #[.int .i64 0, .int .i64 4]) rfl rfl (by decide) (fun _ => by simp [go_sem, execOp, Act.eval]) (fun _ => by simp [go_sem, execOp, Act.eval]) ?_
  walk_nrm
  refine co_value hZ hX7 (.int .i64 0) rfl rfl (by decide) (fun _ => by simp [go_sem, execOp, Act.eval]) (fun _ => by simp [go_sem, execOp, Act.eval]) ?_
  walk_nrm
  refine co_value hZ hX7 (.int .i64 4) rfl rfl (by decide) (fun _ => by simp [go_sem, execOp, Act.eval]) (fun _ => by simp [go_sem, execOp, Act.eval]) ?_
  walk_nrm
  refine co_value hZ hX7 (.int .i64 4) rfl rfl (by decide) (fun _ => by simp [go_sem, execOp, Act.eval]) (fun _ => by simp [go_sem, execOp, Act.eval]) ?_
  walk_nrm
  refine co_region_end hZ hX7 ?_
  refine co_seq hZ hX7 ?_
  obtain ⟨tvx, uvx, Fx1, hS, _, _⟩ := L7.sm
  refine co_code hZ hX7 TT (by decide) (by kernel_rfl) (by kernel_rfl) fun K hK u hu => ?_
  have C0 := same_chg (F := fun _ => False) hu
  have R := Stuck_any x0 (hS.chg C0 (fun _ _ => id)) (en_none x0) (fun r hr => by
      obtain ⟨_, _, _, _, _, hi⟩ := L7.sm
      exact hi r hr)
  have R := R.mono (fun e w h => by
      rw [k_rr, show stuckS sR D0.o x0 = [] from k_st] at h
      exact h)
  have R := Lib.hid R
  have C0 := Hd.mk C0
  have hlt := Hd.mk (fun k (hk : M7 k) => (show k < u.heap.size by rw [hu.heap]; exact L7.lt k hk))
  clear hu hS
  go_wp2_with (go_at_call 17; refine R.out.mono ?_; rintro e w7 ⟨stv, rfl, hown, hb⟩; obtain ⟨stA, stc, rfl, _, _, _⟩ := hown.form; have HB := Hd.mk hb; clear hb)
  refine hK.out _ _ ?_
  have C1 := C0.out.trans (Chg.of_below (F := fun _ => False) HB.out) (fun _ _ => id)
  have KP := KP.still C1
  have L7 := L7.still D0_ok C1
  clear hK K R C0 HB C1 hlt
  refine co_seq hZ hX7 ?_
  refine c_region (n := 0) (J := fun _ a => Co Try.prog Z 0 (g7.fx Try.prog κL 0) a w7) (Co.calmly hZ hX7) [0, 1, 2, 3, 4, 5, 6] rfl ?_
  refine co_value hZ hX7 (.pointer (some ⟨s5, 0, none⟩)) rfl rfl (by decide) (fun _ => by simp [go_sem, execOp, Act.eval]) (fun _ => by simp [go_sem, execOp, Act.eval]) ?_
  walk_nrm
  refine co_call2 hZ hX7 rfl rfl (by decide) rfl Try.func15 (by kernel_rfl) (by kernel_rfl) (vals := #[.pointer (some ⟨s5, 0, none⟩)]) (by simp [Act.eval]) ?_
  refine Close_co D0_ok hZ L7.sch k_rc _ _ fun e X' v8 hq => ?_
  obtain ⟨rfl, gb, rfl, Lgb, _, cgb⟩ := hq
  rw [k_ral]
  have hXgb := Lgb.ok.fx κL_ok
  have KP := KP.up cgb N7
  rw [Frame.finish_at]
  walk_nrm
  refine co_value hZ hXgb (.tuple #[.int .i64 0, .int .i64 0]) rfl rfl (by decide) (fun _ => by simp [go_sem, execOp, Act.eval]) (fun _ => by simp [go_sem, execOp, Act.eval]) ?_
  walk_nrm
  refine co_value hZ hXgb (.int .i64 0) rfl rfl (by decide) (fun _ => by simp [go_sem, execOp, Act.eval]) (fun _ => by simp [go_sem, execOp, Act.eval]) ?_
  walk_nrm
  refine co_value hZ hXgb (.int .i64 0) rfl rfl (by decide) (fun _ => by simp [go_sem, execOp, Act.eval]) (fun _ => by simp [go_sem, execOp, Act.eval]) ?_
  walk_nrm
  refine co_value hZ hXgb (.int .i64 0) rfl rfl (by decide) (fun _ => by simp [go_sem, execOp, Act.eval]) (fun _ => by simp [go_sem, execOp, Act.eval]) ?_
  walk_nrm
  refine co_value hZ hXgb (.int .i64 0) rfl rfl (by decide) (fun _ => by simp [go_sem, execOp, Act.eval]) (fun _ => by simp [go_sem, execOp, Act.eval]) ?_
  walk_nrm
  refine co_region_end hZ hXgb ?_
  refine co_seq hZ hXgb ?_
  refine co_codeR hZ hXgb TT rfl (by kernel_rfl) (by kernel_rfl) fun K hK u hu => ?_
  go_wp2_with fail
  refine hK.out _ _ (co_same hu ?_)
  clear hK K hu u
  refine co_seq hZ hXgb ?_
  refine c_region (n := 0) (J := fun _ a => Co Try.prog Z 0 (gb.fx Try.prog κL 0) a v8) (Co.calmly hZ hXgb) [0, 1, 2, 3, 4, 5, 6, 7, 8] rfl ?_
  refine co_value hZ hXgb (.agg #[]) rfl rfl (by decide) (fun _ => by simp [go_sem, execOp, Act.eval]) (fun _ => by simp [go_sem, execOp, Act.eval]) ?_
  walk_nrm
  refine co_op hZ hXgb TT.toTable (by decide) (R := fun y u => y = .iface 71 (.agg #[]) ∧ Same u v8) rfl rfl (by kernel_rfl) (fun u hu => ⟨.iface 71 (.agg #[]), u, ?_, rfl, hu⟩) (fun y u hh => ?_)
  · first | (simp [go_sem, execOp, Act.eval]; done) | kernel_rfl
  obtain ⟨rfl, hu⟩ := hh
  refine co_same hu ?_
  clear hu u
  walk_nrm
  refine co_call2 hZ hXgb rfl rfl (by decide) rfl Try.func22 (by kernel_rfl) (by kernel_rfl) (vals := #[]) (by simp [Act.eval]) ?_
  refine two_co hZ hXgb _ _ fun lv X' t9 hq => ?_
  obtain ⟨rfl, hlv, hcv⟩ := hq
  rw [Frame.finish_at]
  walk_nrm
  refine co_call2 hZ hXgb rfl rfl (by decide) rfl Try.func21 (by kernel_rfl) (by kernel_rfl) (vals := #[.iface 71 (.agg #[]), lv, .int .i64 50]) (by simp [Act.eval]) ?_
  refine New_co (D := D0) (x := x0) (F := fun _ => False) (l := twoL) (most := 50) D0_ok hZ Lgb hlv.sl (by decide) (by decide) (fun _ => id) (fun r hr => by
    have : r.wait.obj = 0 := begS_all (p := fun r => r.wait.obj = 0) (fun _ _ => rfl) twoL (S0 50) (fun r hr => by cases hr) r hr
    omega) _ _ fun e X' n9 hq => ?_
  obtain ⟨rfl, hA⟩ := hq
  rw [Frame.finish_at]
  walk_nrm
  have KP := KP.still hcv
  have hBs : v.heap.size ≤ t9.heap.size := KP.le
  generalize t9.heap.size = s9 at hA hBs ⊢
  obtain ⟨g9, bs9, M9, rfl, L9, c9, m9⟩ := hA.open D0_ok
  have hX9 := L9.ok
  have N9 : ∀ k, M9 k → v.heap.size ≤ k := KP.far (fun k (e : False ∨ s9 ≤ k) => e.elim False.elim (Nat.le_trans hBs)) m9
  have KP := KP.up c9 (fun k e => e.elim False.elim (Nat.le_trans hBs))
  replace L9 : Liv D0 _ g9 s9 bs9 sA1 x0 M9 n9 := L9
  refine co_value hZ hX9 (.tuple #[.pointer (some ⟨s9, 0, none⟩), .int .i64 0]) rfl rfl (by decide) (fun _ => by simp [go_sem, execOp, Act.eval]) (fun _ => by simp [go_sem, execOp, Act.eval]) ?_
  walk_nrm
  refine co_value hZ hX9 (.pointer (some ⟨s9, 0, none⟩)) rfl rfl (by decide) (fun _ => by simp [go_sem, execOp, Act.eval]) (fun _ => by simp [go_sem, execOp, Act.eval]) ?_
  walk_nrm
  refine co_value hZ hX9 (.int .i64 0) rfl rfl (by decide) (fun _ => by simp [go_sem, execOp, Act.eval]) (fun _ => by simp [go_sem, execOp, Act.eval]) ?_
  walk_nrm
  refine co_value hZ hX9 (.pointer (some ⟨s9, 0, none⟩)) rfl rfl (by decide) (fun _ => by simp [go_sem, execOp, Act.eval]) (fun _ => by simp [go_sem, execOp, Act.eval]) ?_
  walk_nrm
  refine co_value hZ hX9 (.int .i64 0) rfl rfl (by decide) (fun _ => by simp [go_sem, execOp, Act.eval]) (fun _ => by simp [go_sem, execOp, Act.eval]) ?_
  walk_nrm
  refine co_region_end hZ hX9 ?_
  refine co_seq hZ hX9 ?_
  refine c_region (n := 0) (J := fun _ a => Co Try.prog Z 0 (g9.fx Try.prog κL 0) a n9) (Co.calmly hZ hX9) [0, 1, 2, 3, 4, 5, 6] rfl ?_
  refine co_value hZ hX9 (.pointer (some ⟨s9, 0, none⟩)) rfl rfl (by decide) (fun _ => by simp [go_sem, execOp, Act.eval]) (fun _ => by simp [go_sem, execOp, Act.eval]) ?_
  walk_nrm
  refine co_call2 hZ hX9 rfl rfl (by decide) rfl Try.func12 (by kernel_rfl) (by kernel_rfl) (vals := #[.pointer (some ⟨s9, 0, none⟩), .int .i64 10]) (by simp [Act.eval]) ?_
  refine Fair_co D0_ok hZ L9.sch a_c1 (by decide) _ _ fun e X' p10 hq => ?_
  obtain ⟨rfl, hA⟩ := hq
  rw [k_f]
  rw [k_fx] at hA
  rw [Frame.finish_at]
  walk_nrm
  obtain ⟨g10, bs10, M10, rfl, L10, c10, m10⟩ := hA.open D0_ok
  have hX10 := L10.ok
  have N10 := KP.far N9 m10
  have KP := KP.up c10 N9
  replace L10 : Liv D0 _ g10 s9 bs10 sF x0 M10 p10 := L10
  refine co_value hZ hX10 (.tuple #[.int .i64 3, .int .i64 4]) rfl rfl (by decide) (fun _ => by simp [go_sem, execOp, Act.eval]) (fun _ => by simp [go_sem, execOp, Act.eval]) ?_
  walk_nrm
  refine co_value hZ hX10 (.int .i64 3) rfl rfl (by decide) (fun _ => by simp [go_sem, execOp, Act.eval]) (fun _ => by simp [go_sem, execOp, Act.eval]) ?_
  walk_nrm
  refine co_value hZ hX10 (.int .i64 4) rfl rfl (by decide) (fun _ => by simp [go_sem, execOp, Act.eval]) (fun _ => by simp [go_sem, execOp, Act.eval]) ?_
  walk_nrm
  refine co_value hZ hX10 (.int .i64 3) rfl rfl (by decide) (fun _ => by simp [go_sem, execOp, Act.eval]) (fun _ => by simp [go_sem, execOp, Act.eval]) ?_
  walk_nrm
  refine co_value hZ hX10 (.int .i64 4) rfl rfl (by decide) (fun _ => by simp [go_sem, execOp, Act.eval]) (fun _ => by simp [go_sem, execOp, Act.eval]) ?_
  walk_nrm
  refine co_region_end hZ hX10 ?_
  refine co_seq hZ hX10 ?_
  obtain ⟨tvx, uvx, Fx1, hS, _, _⟩ := L10.sm
  refine co_code hZ hX10 TT (by decide) (by kernel_rfl) (by kernel_rfl) fun K hK u hu => ?_
  have C0 := same_chg (F := fun _ => False) hu
  have R := Log_any (hS.chg C0 (fun _ _ => id))
  have R := R.mono (fun e w h => by
      rw [k_fr, k_fc, if_neg (by simp), k_ft] at h
      exact h)
  have R := Lib.hid R
  have C0 := Hd.mk C0
  have hlt := Hd.mk (fun k (hk : M10 k) => (show k < u.heap.size by rw [hu.heap]; exact L10.lt k hk))
  clear hu hS
  go_wp2_with (go_at_call 20; refine R.out.mono ?_; rintro e w10 ⟨lgv, rfl, hown, hb⟩; have HO := Hd.mk hown; clear hown; have HB := Hd.mk hb; clear hb)
  refine hK.out _ _ ?_
  have C1 := C0.out.trans (Chg.of_below (F := fun _ => False) HB.out) (fun _ _ => id)
  have KP := KP.still C1
  have L10 := L10.still D0_ok C1
  have B10 := Bes.new hlt.out HO.out
  clear hK K R C0 HB C1 hlt
  refine co_seq hZ hX10 ?_
  refine c_region (n := 0) (J := fun _ a => Co Try.prog Z 0 (g10.fx Try.prog κL 0) a w10) (Co.calmly hZ hX10) [0, 1] rfl ?_
  refine co_value hZ hX10 (.pointer (some ⟨s9, 0, none⟩)) rfl rfl (by decide) (fun _ => by simp [go_sem, execOp, Act.eval]) (fun _ => by simp [go_sem, execOp, Act.eval]) ?_
  walk_nrm
  refine co_call2 hZ hX10 rfl rfl (by decide) rfl Try.func15 (by kernel_rfl) (by kernel_rfl) (vals := #[.pointer (some ⟨s9, 0, none⟩)]) (by simp [Act.eval]) ?_
  refine Close_co D0_ok hZ L10.sch k_fc _ _ fun e X' v11 hq => ?_
  obtain ⟨rfl, gc, rfl, Lgc, _, cgc⟩ := hq
  rw [show (alI sF).length = 0 by kernel_rfl]
  have hXgc := Lgc.ok.fx κL_ok
  have KP := KP.up cgc N10
  rw [Frame.finish_at]
  walk_nrm
  refine co_region_end hZ hXgc ?_
  have B11 := (B10.up tnR_flat cgc (fun _ h => .inl h)).sl
  refine co_seq hZ hXgc ?_
  refine c_region (n := 0) (J := fun _ a => Co Try.prog Z 0 (gc.fx Try.prog κL 0) a v11) (Co.calmly hZ hXgc) [0, 1, 2, 3, 4, 5, 6, 7, 8, 9, 10, 11, 12, 13, 14, 15, 16, 17, 18, 19, 20, 21, 22, 23, 24, 25] rfl ?_
  refine co_value hZ hXgc (.int .i64 0) rfl rfl (by decide) (fun _ => by simp [go_sem, execOp, Act.eval]) (fun _ => by simp [go_sem, execOp, Act.eval]) ?_
  walk_nrm
  refine co_value hZ hXgc (.bool true) rfl rfl (by decide) (fun _ => by simp [go_sem, execOp, Act.eval]) (fun _ => by simp [go_sem, execOp, Act.eval]) ?_
  walk_nrm
  refine co_value hZ hXgc (.bool true) rfl rfl (by decide) (fun _ => by simp [go_sem, execOp, Act.eval]) (fun _ => by simp [go_sem, execOp, Act.eval]) ?_
  walk_nrm
  refine co_value hZ hXgc (.int .i64 4) rfl rfl (by decide) (fun _ => by simp [go_sem, execOp, Act.eval]) (fun _ => by simp [go_sem, execOp, Act.eval]) ?_
  walk_nrm
  refine co_value hZ hXgc (.bool true) rfl rfl (by decide) (fun _ => by simp [go_sem, execOp, Act.eval]) (fun _ => by simp [go_sem, execOp, Act.eval]) ?_
  walk_nrm
  refine co_value hZ hXgc (.bool true) rfl rfl (by decide) (fun _ => by simp [go_sem, execOp, Act.eval]) (fun _ => by simp [go_sem, execOp, Act.eval]) ?_
  walk_nrm
  refine co_value hZ hXgc (.bool true) rfl rfl (by decide) (fun _ => by simp [go_sem, execOp, Act.eval]) (fun _ => by simp [go_sem, execOp, Act.eval]) ?_
  walk_nrm
  refine co_value hZ hXgc (.int .i64 0) rfl rfl (by decide) (fun _ => by simp [go_sem, execOp, Act.eval]) (fun _ => by simp [go_sem, execOp, Act.eval]) ?_
  walk_nrm
  refine co_value hZ hXgc (.bool true) rfl rfl (by decide) (fun _ => by simp [go_sem, execOp, Act.eval]) (fun _ => by simp [go_sem, execOp, Act.eval]) ?_
  walk_nrm
  refine co_value hZ hXgc (.bool true) rfl rfl (by decide) (fun _ => by simp [go_sem, execOp, Act.eval]) (fun _ => by simp [go_sem, execOp, Act.eval]) ?_
  walk_nrm
  refine co_value hZ hXgc (.bool true) rfl rfl (by decide) (fun _ => by simp [go_sem, execOp, Act.eval]) (fun _ => by simp [go_sem, execOp, Act.eval]) ?_
  walk_nrm
  refine co_value hZ hXgc (.int .i64 3) rfl rfl (by decide) (fun _ => by simp [go_sem, execOp, Act.eval]) (fun _ => by simp [go_sem, execOp, Act.eval]) ?_
  walk_nrm
  refine co_value hZ hXgc (.bool true) rfl rfl (by decide) (fun _ => by simp [go_sem, execOp, Act.eval]) (fun _ => by simp [go_sem, execOp, Act.eval]) ?_
  walk_nrm
  refine co_value hZ hXgc (.bool true) rfl rfl (by decide) (fun _ => by simp [go_sem, execOp, Act.eval]) (fun _ => by simp [go_sem, execOp, Act.eval]) ?_
  walk_nrm
  refine co_value hZ hXgc (.bool true) rfl rfl (by decide) (fun _ => by simp [go_sem, execOp, Act.eval]) (fun _ => by simp [go_sem, execOp, Act.eval]) ?_
  walk_nrm
  refine co_value hZ hXgc (lgv) rfl rfl (by decide) (fun _ => by simp [go_sem, execOp, Act.eval]) (fun _ => by simp [go_sem, execOp, Act.eval]) ?_
  walk_nrm
  refine co_value hZ hXgc (.agg #[.int .i64 1, .int .i64 0, .int .i64 0, .int .i64 0, .int .i64 2]) rfl rfl (by decide) (fun _ => by simp [go_sem, execOp, Act.eval]) (fun _ => by simp [go_sem, execOp, Act.eval]) ?_
  walk_nrm
  refine co_value hZ hXgc (.agg #[.int .i64 2, .int .i64 0, .int .i64 0, .int .i64 0, .int .i64 2]) rfl rfl (by decide) (fun _ => by simp [go_sem, execOp, Act.eval]) (fun _ => by simp [go_sem, execOp, Act.eval]) ?_
  walk_nrm
  refine co_value hZ hXgc (.agg #[.int .i64 1, .int .i64 0, .int .i64 0, .int .i64 0, .int .i64 1]) rfl rfl (by decide) (fun _ => by simp [go_sem, execOp, Act.eval]) (fun _ => by simp [go_sem, execOp, Act.eval]) ?_
  walk_nrm
  refine co_op hZ hXgc TT.toTable (by decide) (R := fun y u => y = .slice (some ⟨v11.heap.size, 0, none⟩) 3 3 ∧ Same u (v11.alloc (.cells #[.int .i64 1, .int .i64 0, .int .i64 0, .int .i64 0, .int .i64 2, .int .i64 2, .int .i64 0, .int .i64 0, .int .i64 0, .int .i64 2, .int .i64 1, .int .i64 0, .int .i64 0, .int .i64 0, .int .i64 1] 79))) rfl rfl (by kernel_rfl) (fun u hu => ⟨.slice (some ⟨u.heap.size, 0, none⟩) 3 3, u.alloc (.cells #[.int .i64 1, .int .i64 0, .int .i64 0, .int .i64 0, .int .i64 2, .int .i64 2, .int .i64 0, .int .i64 0, .int .i64 0, .int .i64 2, .int .i64 1, .int .i64 0, .int .i64 0, .int .i64 0, .int .i64 1] 79), ?_, by rw [hu.heap], hu.alloc _⟩) (fun y u hh => ?_)
  · first | (simp [go_sem, execOp, Act.eval]; done) | kernel_rfl
  obtain ⟨rfl, hu⟩ := hh
  refine co_same hu ?_
  clear hu u
  walk_nrm
  have HL : Sl tnR (v11.alloc (.cells #[.int .i64 1, .int .i64 0, .int .i64 0, .int .i64 0, .int .i64 2, .int .i64 2, .int .i64 0, .int .i64 0, .int .i64 0, .int .i64 2, .int .i64 1, .int .i64 0, .int .i64 0, .int .i64 0, .int .i64 1] 79)) (.slice (some ⟨v11.heap.size, 0, none⟩) 3 3) logL := (Own.lit (e := 79) (R := tnR) (B := v11.heap.size) (cells := (Tn.cells ⟨1, ⟨0, 0, 0⟩, 2⟩) ++ ((Tn.cells ⟨2, ⟨0, 0, 0⟩, 2⟩) ++ (Tn.cells ⟨1, ⟨0, 0, 0⟩, 1⟩))) rfl (Nat.le_refl _) (many_cons (R := tnR) (x := ⟨1, ⟨0, 0, 0⟩, 2⟩) rfl (many_cons (R := tnR) (x := ⟨2, ⟨0, 0, 0⟩, 2⟩) rfl (Rep.many_one (R := tnR) (x := ⟨1, ⟨0, 0, 0⟩, 1⟩) rfl))) rfl (by decide)).sl
  have C1 := Chg.alloc (fun _ => False) v11 (.cells #[.int .i64 1, .int .i64 0, .int .i64 0, .int .i64 0, .int .i64 2, .int .i64 2, .int .i64 0, .int .i64 0, .int .i64 0, .int .i64 2, .int .i64 1, .int .i64 0, .int .i64 0, .int .i64 0, .int .i64 1] 79)
  have B11 := B11.chg tnR_flat C1 (fun _ _ => id)
  have KP := KP.still C1
  generalize v11.alloc (.cells #[.int .i64 1, .int .i64 0, .int .i64 0, .int .i64 0, .int .i64 2, .int .i64 2, .int .i64 0, .int .i64 0, .int .i64 0, .int .i64 2, .int .i64 1, .int .i64 0, .int .i64 0, .int .i64 0, .int .i64 1] 79) = v12 at HL B11 KP ⊢
  refine co_call2 hZ hXgc rfl rfl (by decide) rfl Try.func28 (by kernel_rfl) (by kernel_rfl) (vals := #[lgv, .slice (some ⟨v11.heap.size, 0, none⟩) 3 3]) (by simp [Act.eval]) ?_
  refine sameLog_co hZ hXgc B11 HL rfl _ _ fun e X' v13 hq => ?_
  obtain ⟨rfl, rfl, C2⟩ := hq
  have KP := KP.still C2
  rw [Frame.finish_at]
  walk_nrm
  refine co_value hZ hXgc (.bool true) rfl rfl (by decide) (fun _ => by simp [go_sem, execOp, Act.eval]) (fun _ => by simp [go_sem, execOp, Act.eval]) ?_
  walk_nrm
  refine co_value hZ hXgc (.bool true) rfl rfl (by decide) (fun _ => by simp [go_sem, execOp, Act.eval]) (fun _ => by simp [go_sem, execOp, Act.eval]) ?_
  walk_nrm
  refine co_call2 hZ hXgc rfl rfl (by decide) rfl Try.func11 (by kernel_rfl) (by kernel_rfl) (vals := #[]) (by simp [Act.eval]) ?_
  refine awake_co hZ Lgc _ _ fun e X' v14 hq => ?_
  obtain ⟨rfl, ⟨gd, rfl, Lgd⟩, C3⟩ := hq
  have hXgd := Lgd.ok.fx κL_ok
  have KP := KP.still C3
  rw [Frame.finish_at]
  walk_nrm
  refine co_value hZ hXgd (.bool true) rfl rfl (by decide) (fun _ => by simp [go_sem, execOp, Act.eval]) (fun _ => by simp [go_sem, execOp, Act.eval]) ?_
  walk_nrm
  refine co_value hZ hXgd (.bool true) rfl rfl (by decide) (fun _ => by simp [go_sem, execOp, Act.eval]) (fun _ => by simp [go_sem, execOp, Act.eval]) ?_
  walk_nrm
  refine co_region_end hZ hXgd ?_
  refine co_ret hZ hXgd ?_
  exact fin_leave hF Lgd KP.out rfl rfl Try.func9 (fun w => by simp [results, Try.results9, go_sem]) (fun w => by simp [results, Try.results9, go_sem]) (by kernel_rfl)
end Co
end Go.Proofs.Ytlngbdggehghgaa
