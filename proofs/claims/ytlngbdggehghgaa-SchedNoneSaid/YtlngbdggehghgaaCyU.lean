/-
  Schedulers that are none; New of no world, in company. Conditions: as each theorem says.
-/
import Derived.Test.YtlngbdggehghgaaCyJ
namespace Go.Proofs.Ytlngbdggehghgaa
set_option linter.unusedSimpArgs false
set_option linter.unusedVariables false
open Go.RowKit
theorem info_tk:(Try.prog.info? 35).map (fun i=>(i.zero,i.size,i.bytes))=some (some (.agg #[.int .i64 0,.int .i64 0,.int .i64 0,.int .i64 0,.int .i64 0,.int .i64 0,.int .i64 0]),7,56):=by kernel_rfl
def zeroT:Array Value:=#[.int .i64 0,.int .i64 0,.int .i64 0,.int .i64 0,.int .i64 0,.int .i64 0,.int .i64 0]
def tk0:Tk:=⟨0,0,0,0,0,0,0⟩
theorem mk_tk (k:Nat) (hk:k≤1000000) (w:World):(Instr.makeSlice 69 (.int .i64 (k:Int)) (.int .i64 (k:Int))).run Try.prog w=.ok (.slice (some ⟨w.heap.size,0,none⟩) k k) (w.alloc (.cells (madeCells zeroT (k*7)) 35)):=by
 obtain⟨i,hi,hz,hs,hb⟩:=info_parts info_tk
 have h:=run_make (P:=Try.prog) w 69 35 i _ Try.underlying69 hi hz .i64 .i64 k k (by omega) (Int.le_refl _) (by rw[hb];omega) (by omega)
 rw[h,hs]
 simp only[Int.toNat_natCast]
 rfl
theorem many_tk0 (w:World):∀k:Nat,tkR.many w ((List.range (k*7)).map fun i=>zeroT[i%7]!) (List.replicate k tk0)
 |0=>by simp[Rep.many]
 |k+1=>by
  refine⟨zeroT.toList,_, ?_, ?_,many_tk0 w k⟩
  ·rw[show(k+1)*7=7+k*7 by omega,List.range_add,List.map_append,List.map_map]
   congr 1
   apply List.map_congr_left
   intro i _
   simp
  ·rfl
theorem made_tk (n:Nat):(madeCells zeroT n).toList=(List.range n).map fun i=>zeroT[i%7]!:=by
 simp only[madeCells,Array.toList_map,Array.toList_range]
 rfl
theorem own_tk0 (w:World) (k:Nat) (hk:k≤1000000):Own tkR 35 w.heap.size (w.alloc (.cells (madeCells zeroT (k*7)) 35)) (.slice (some ⟨w.heap.size,0,none⟩) k k) (List.replicate k tk0):=by
 have h:=Own.lit (R:=tkR) (e:=35) (B:=w.heap.size) (g:=w.heap.size) (n:=k) (w:=w) (cells:=(madeCells zeroT (k*7)).toList) (xs:=List.replicate k tk0) rfl (Nat.le_refl _)
  (by rw[made_tk];exact many_tk0 _ k) (by simp) hk
 simpa using h
theorem begS_len (l:List Tk):∀S:SS,S.rs.length+l.length≤200→(begS S l).rs.length=S.rs.length+l.length:=by
 induction l with
 |nil=>exact fun S _=>rfl
 |cons t l ih=>
  intro S h
  rw[Co.begS_cons,if_pos (by simp at h;omega),ih _ (by simp[addS] at h⊢;omega)]
  simp[addS]
  omega
theorem alI_new (most:Int) (l:List Tk) (h:l.length≤200):(alI (begS (Co.S0 most) l)).length=l.length:=by
 have h1:=begS_len l (Co.S0 most) (by simpa[Co.S0] using h)
 have h2:=begS_all (p:=fun r=>r.wait.kind=0) (fun _ _=>rfl) l (Co.S0 most) (fun r hr=>by cases hr)
 unfold alI plc
 rw[List.filter_eq_self.2]
 ·rw[List.length_range,h1];simp[Co.S0]
 ·intro i hi
  have hi:i<(begS (Co.S0 most) l).rs.length:=by simpa using hi
  rw[List.getElem?_eq_getElem hi]
  have:=h2 _ (List.getElem_mem hi)
  simp only[this]
  rfl
def NoS (sv:Value) (w:World):Prop:=sv=.pointer none∨∃q,sv=.pointer (some ⟨q,0,none⟩)∧w.cell? ⟨q,0,none⟩=some .nilIface
theorem NoS.chg {sv:Value} {v w:World} (h:NoS sv v) (c:Chg (fun _=>False) v w):NoS sv w:=by
 rcases h with rfl|⟨q,rfl,h⟩
 ·exact .inl rfl
 ·exact .inr ⟨q,rfl,c.cell h id⟩
theorem NoS.ready {sv:Value} {w:World} (h:NoS sv w):Calls Try.prog 30 #[sv] w fun e w'=>e=.returned (.int .i64 1)∧Below w.heap.size w w':=by
 rcases h with rfl|⟨q,rfl,h⟩
 ·exact ready_nil
 ·exact ready_none h
theorem Enabled_no {sv:Value} {w:World} (h:NoS sv w):Calls Try.prog 16 #[sv] w fun e w'=>e=.returned (.tuple #[.slice none 0 0,.int .i64 1])∧Below w.heap.size w w':=by
 have C:=Lib.hid h.ready
 clear h
 go_enter Try.func16,Try.ntmps16
 go_wp2_with (go_at_call 30;refine C.out.mono ?_;rintro e w1 ⟨rfl,hb1⟩)
 go_ret2
 exact⟨rfl,hb1⟩
theorem Log_no {sv:Value} {w:World} (h:NoS sv w):Calls Try.prog 20 #[sv] w fun e w'=>e=.returned (.tuple #[.slice none 0 0,.int .i64 1])∧Below w.heap.size w w':=by
 have C:=Lib.hid h.ready
 clear h
 go_enter Try.func20,Try.ntmps20
 go_wp2_with (go_at_call 30;refine C.out.mono ?_;rintro e w1 ⟨rfl,hb1⟩)
 go_ret2
 exact⟨rfl,hb1⟩
namespace Co
open Go.Conc
noncomputable def bodyN18:Code:=Try.f18.body.getD .skip
set_option maxRecDepth 100000 in
set_option maxHeartbeats 8000000 in
theorem Pick_no {Z:Goal} {X:Fx} {v:World} {sv av:Value} (hZ:Z.Ok Try.prog) (hX:X.Ok Try.prog 0) (h:NoS sv v):
 Calls Try.prog Z 0 X 18 #[sv,av] v fun e X' v'=>e=.tuple #[.int .i64 0,.int .i64 1]∧X'=X∧Chg (fun _=>False) v v':=by
 intro c cs hpost
 have HP:=Hd.mk hpost
 clear hpost
 rw[enter_at _ Try.func18 (by kernel_rfl:Try.f18.body=some bodyN18),Try.ntmps18]
 walk_nrm
 simp only[bodyN18,Try.f18,Option.getD_some]
 refine co_seq hZ hX ?_
 refine co_code hZ hX TT (by decide) (by kernel_rfl) (by kernel_rfl) fun K hK u hu=> ?_
 go_wp2_with fail
 refine hK.out _ _ (co_same hu ?_)
 clear hK K hu u
 refine co_seq hZ hX ?_
 refine co_seq hZ hX ?_
 refine co_code hZ hX TT (by decide) (by kernel_rfl) (by kernel_rfl) fun K hK u hu=> ?_
 have R:=Lib.hid (h.chg (same_chg hu)).ready
 have C0:=Hd.mk (same_chg (F:=fun _=>False) hu)
 clear hu h
 go_wp2_with (go_at_call 30;refine R.out.mono ?_;rintro e w1 ⟨rfl,hb⟩;have HB:=Hd.mk hb;clear hb)
 refine hK.out _ _ ?_
 have C1:=Hd.mk (C0.out.trans (Chg.of_below (F:=fun _=>False) HB.out) (fun _ _=>id))
 clear hK K R C0 HB
 refine co_seq hZ hX ?_
 refine co_code hZ hX TT (by decide) (by kernel_rfl) (by kernel_rfl) fun K hK u hu=> ?_
 go_wp2_with fail
 refine hK.out _ _ (co_same hu ?_)
 clear hK K hu u
 refine co_cond (t:=true) hZ hX (by simp[Act.eval]) ?_
 simp only[↓reduceIte]
 refine co_seq hZ hX ?_
 refine co_code hZ hX TT (by decide) (by kernel_rfl) (by kernel_rfl) fun K hK u hu=> ?_
 go_wp2_with fail
 refine hK.out _ _ (co_same hu ?_)
 clear hK K hu u
 refine co_ret hZ hX ?_
 refine c_leave (n:=0) (J:=fun _ a=>Co Try.prog Z 0 X a w1) (Co.calmly hZ hX) (x:=.tuple #[.int .i64 0,.int .i64 1]) rfl rfl Try.func18 (fun w=>by simp[results,Try.results18,go_sem]) (fun w=>by simp[results,Try.results18,go_sem]) ?_
 exact HP.out _ _ w1 ⟨rfl,rfl,C1.out⟩
noncomputable def bodyN19:Code:=Try.f19.body.getD .skip
set_option maxRecDepth 100000 in
set_option maxHeartbeats 8000000 in
theorem Run_no {Z:Goal} {X:Fx} {v:World} {sv av:Value} (hZ:Z.Ok Try.prog) (hX:X.Ok Try.prog 0) (h:NoS sv v):
 Calls Try.prog Z 0 X 19 #[sv,av] v fun e X' v'=>e=.tuple #[.int .i64 0,.int .i64 1]∧X'=X∧Chg (fun _=>False) v v':=by
 intro c cs hpost
 have HP:=Hd.mk hpost
 clear hpost
 rw[enter_at _ Try.func19 (by kernel_rfl:Try.f19.body=some bodyN19),Try.ntmps19]
 walk_nrm
 simp only[bodyN19,Try.f19,Option.getD_some]
 refine co_seq hZ hX ?_
 refine co_code hZ hX TT (by decide) (by kernel_rfl) (by kernel_rfl) fun K hK u hu=> ?_
 go_wp2_with fail
 refine hK.out _ _ (co_same hu ?_)
 clear hK K hu u
 refine co_seq hZ hX ?_
 refine co_seq hZ hX ?_
 refine co_code hZ hX TT (by decide) (by kernel_rfl) (by kernel_rfl) fun K hK u hu=> ?_
 have R:=Lib.hid (h.chg (same_chg hu)).ready
 have C0:=Hd.mk (same_chg (F:=fun _=>False) hu)
 clear hu h
 go_wp2_with (go_at_call 30;refine R.out.mono ?_;rintro e w1 ⟨rfl,hb⟩;have HB:=Hd.mk hb;clear hb)
 refine hK.out _ _ ?_
 have C1:=Hd.mk (C0.out.trans (Chg.of_below (F:=fun _=>False) HB.out) (fun _ _=>id))
 clear hK K R C0 HB
 refine co_seq hZ hX ?_
 refine co_code hZ hX TT (by decide) (by kernel_rfl) (by kernel_rfl) fun K hK u hu=> ?_
 go_wp2_with fail
 refine hK.out _ _ (co_same hu ?_)
 clear hK K hu u
 refine co_cond (t:=true) hZ hX (by simp[Act.eval]) ?_
 simp only[↓reduceIte]
 refine co_seq hZ hX ?_
 refine co_code hZ hX TT (by decide) (by kernel_rfl) (by kernel_rfl) fun K hK u hu=> ?_
 go_wp2_with fail
 refine hK.out _ _ (co_same hu ?_)
 clear hK K hu u
 refine co_ret hZ hX ?_
 refine c_leave (n:=0) (J:=fun _ a=>Co Try.prog Z 0 X a w1) (Co.calmly hZ hX) (x:=.tuple #[.int .i64 0,.int .i64 1]) rfl rfl Try.func19 (fun w=>by simp[results,Try.results19,go_sem]) (fun w=>by simp[results,Try.results19,go_sem]) ?_
 exact HP.out _ _ w1 ⟨rfl,rfl,C1.out⟩
noncomputable def bodyN12:Code:=Try.f12.body.getD .skip
set_option maxRecDepth 100000 in
set_option maxHeartbeats 8000000 in
theorem Fair_no {Z:Goal} {X:Fx} {v:World} {sv av:Value} (hZ:Z.Ok Try.prog) (hX:X.Ok Try.prog 0) (h:NoS sv v):
 Calls Try.prog Z 0 X 12 #[sv,av] v fun e X' v'=>e=.tuple #[.int .i64 0,.int .i64 1]∧X'=X∧Chg (fun _=>False) v v':=by
 intro c cs hpost
 have HP:=Hd.mk hpost
 clear hpost
 rw[enter_at _ Try.func12 (by kernel_rfl:Try.f12.body=some bodyN12),Try.ntmps12]
 walk_nrm
 simp only[bodyN12,Try.f12,Option.getD_some]
 refine co_seq hZ hX ?_
 refine co_code hZ hX TT (by decide) (by kernel_rfl) (by kernel_rfl) fun K hK u hu=> ?_
 go_wp2_with fail
 refine hK.out _ _ (co_same hu ?_)
 clear hK K hu u
 refine co_seq hZ hX ?_
 refine co_seq hZ hX ?_
 refine co_code hZ hX TT (by decide) (by kernel_rfl) (by kernel_rfl) fun K hK u hu=> ?_
 have R:=Lib.hid (h.chg (same_chg hu)).ready
 have C0:=Hd.mk (same_chg (F:=fun _=>False) hu)
 clear hu h
 go_wp2_with (go_at_call 30;refine R.out.mono ?_;rintro e w1 ⟨rfl,hb⟩;have HB:=Hd.mk hb;clear hb)
 refine hK.out _ _ ?_
 have C1:=Hd.mk (C0.out.trans (Chg.of_below (F:=fun _=>False) HB.out) (fun _ _=>id))
 clear hK K R C0 HB
 refine co_seq hZ hX ?_
 refine co_code hZ hX TT (by decide) (by kernel_rfl) (by kernel_rfl) fun K hK u hu=> ?_
 go_wp2_with fail
 refine hK.out _ _ (co_same hu ?_)
 clear hK K hu u
 refine co_cond (t:=true) hZ hX (by simp[Act.eval]) ?_
 simp only[↓reduceIte]
 refine co_seq hZ hX ?_
 refine co_code hZ hX TT (by decide) (by kernel_rfl) (by kernel_rfl) fun K hK u hu=> ?_
 go_wp2_with fail
 refine hK.out _ _ (co_same hu ?_)
 clear hK K hu u
 refine co_ret hZ hX ?_
 refine c_leave (n:=0) (J:=fun _ a=>Co Try.prog Z 0 X a w1) (Co.calmly hZ hX) (x:=.tuple #[.int .i64 0,.int .i64 1]) rfl rfl Try.func12 (fun w=>by simp[results,Try.results12,go_sem]) (fun w=>by simp[results,Try.results12,go_sem]) ?_
 exact HP.out _ _ w1 ⟨rfl,rfl,C1.out⟩
noncomputable def bodyN15:Code:=Try.f15.body.getD .skip
set_option maxRecDepth 100000 in
set_option maxHeartbeats 8000000 in
theorem Close_no {Z:Goal} {X:Fx} {v:World} {sv:Value} (hZ:Z.Ok Try.prog) (hX:X.Ok Try.prog 0) (h:NoS sv v):
 Calls Try.prog Z 0 X 15 #[sv] v fun e X' v'=>e=.tuple #[.int .i64 0,.int .i64 1]∧X'=X∧Chg (fun _=>False) v v':=by
 intro c cs hpost
 have HP:=Hd.mk hpost
 clear hpost
 rw[enter_at _ Try.func15 (by kernel_rfl:Try.f15.body=some bodyN15),Try.ntmps15]
 walk_nrm
 simp only[bodyN15,Try.f15,Option.getD_some]
 refine co_seq hZ hX ?_
 refine co_code hZ hX TT (by decide) (by kernel_rfl) (by kernel_rfl) fun K hK u hu=> ?_
 go_wp2_with fail
 refine hK.out _ _ (co_same hu ?_)
 clear hK K hu u
 refine co_seq hZ hX ?_
 refine co_seq hZ hX ?_
 refine co_code hZ hX TT (by decide) (by kernel_rfl) (by kernel_rfl) fun K hK u hu=> ?_
 have R:=Lib.hid (h.chg (same_chg hu)).ready
 have C0:=Hd.mk (same_chg (F:=fun _=>False) hu)
 clear hu h
 go_wp2_with (go_at_call 30;refine R.out.mono ?_;rintro e w1 ⟨rfl,hb⟩;have HB:=Hd.mk hb;clear hb)
 refine hK.out _ _ ?_
 have C1:=Hd.mk (C0.out.trans (Chg.of_below (F:=fun _=>False) HB.out) (fun _ _=>id))
 clear hK K R C0 HB
 refine co_seq hZ hX ?_
 refine co_code hZ hX TT (by decide) (by kernel_rfl) (by kernel_rfl) fun K hK u hu=> ?_
 go_wp2_with fail
 refine hK.out _ _ (co_same hu ?_)
 clear hK K hu u
 refine co_cond (t:=true) hZ hX (by simp[Act.eval]) ?_
 simp only[↓reduceIte]
 refine co_seq hZ hX ?_
 refine co_code hZ hX TT (by decide) (by kernel_rfl) (by kernel_rfl) fun K hK u hu=> ?_
 go_wp2_with fail
 refine hK.out _ _ (co_same hu ?_)
 clear hK K hu u
 refine co_ret hZ hX ?_
 refine c_leave (n:=0) (J:=fun _ a=>Co Try.prog Z 0 X a w1) (Co.calmly hZ hX) (x:=.tuple #[.int .i64 0,.int .i64 1]) rfl rfl Try.func15 (fun w=>by simp[results,Try.results15,go_sem]) (fun w=>by simp[results,Try.results15,go_sem]) ?_
 exact HP.out _ _ w1 ⟨rfl,rfl,C1.out⟩
noncomputable def bodyN21:Code:=Try.f21.body.getD .skip
set_option maxRecDepth 100000 in
set_option maxHeartbeats 8000000 in
theorem New_no {Z:Goal} {X:Fx} {v:World} {lA:Option Addr} {ln lc:Nat} {most:Int} (hZ:Z.Ok Try.prog) (hX:X.Ok Try.prog 0):
 Calls Try.prog Z 0 X 21 #[.nilIface,.slice lA ln lc,.int .i64 most] v fun e X' v'=>e=.tuple #[.pointer none,.int .i64 1]∧X'=X∧v'=v:=by
 intro c cs hpost
 have HP:=Hd.mk hpost
 clear hpost
 rw[enter_at _ Try.func21 (by kernel_rfl:Try.f21.body=some bodyN21),Try.ntmps21]
 walk_nrm
 simp only[bodyN21,Try.f21,Option.getD_some]
 refine co_seq hZ hX ?_
 refine co_code hZ hX TT (by decide) (by kernel_rfl) (by kernel_rfl) fun K hK u hu=> ?_
 go_wp2_with fail
 refine hK.out _ _ (co_same hu ?_)
 clear hK K hu u
 refine co_seq hZ hX ?_
 refine co_block hZ hX ?_
 refine co_seq hZ hX ?_
 refine co_code hZ hX TT (by decide) (by kernel_rfl) (by kernel_rfl) fun K hK u hu=> ?_
 go_wp2_with fail
 refine hK.out _ _ (co_same hu ?_)
 clear hK K hu u
 refine co_cond (t:=true) hZ hX (by simp[Act.eval]) ?_
 simp only[↓reduceIte]
 refine co_seq hZ hX ?_
 refine co_code hZ hX TT (by decide) (by kernel_rfl) (by kernel_rfl) fun K hK u hu=> ?_
 go_wp2_with fail
 refine hK.out _ _ (co_same hu ?_)
 clear hK K hu u
 refine co_ret hZ hX ?_
 refine c_leave (n:=0) (J:=fun _ a=>Co Try.prog Z 0 X a v) (Co.calmly hZ hX) (x:=.tuple #[.pointer none,.int .i64 1]) rfl rfl Try.func21 (fun w=>by simp[results,Try.results21,go_sem]) (fun w=>by simp[results,Try.results21,go_sem]) ?_
 exact HP.out _ _ v ⟨rfl,rfl,rfl⟩
end Co
end Go.Proofs.Ytlngbdggehghgaa
