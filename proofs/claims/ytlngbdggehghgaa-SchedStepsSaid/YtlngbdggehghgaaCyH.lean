/-
  New's errors, in company. Conditions: as each theorem says.
-/
import Derived.Test.YtlngbdggehghgaaCyD
namespace Go.Proofs.Ytlngbdggehghgaa
set_option linter.unusedSimpArgs false
set_option linter.unusedVariables false
namespace Co
open Go.Conc Go.RowKit
set_option maxRecDepth 100000 in
set_option maxHeartbeats 8000000 in
theorem new_err_co {Z:Goal} {X:Fx} {o:Option Nat} {v:World} {lv:Value} {l:List Tk} {most:Int} (hZ:Z.Ok Try.prog) (hX:X.Ok Try.prog 0) (hl:Sl tkR v lv l) (he:newE l.length most≠0):
 Calls Try.prog Z 0 X 21 #[WV o,lv,.int .i64 most] v fun e X' v'=>e=.tuple #[.pointer none,.int .i64 (newE l.length most)]∧X'=X∧v'=v:=by
 intro c cs hpost
 have HP:=Hd.mk hpost
 clear hpost
 obtain⟨lA,lc,rfl,hlc1,hlc2,_⟩:=hl.open
 clear hl
 generalize hne:newE l.length most=z at HP he
 have HN:=Lib.hid hne
 have HE:=Lib.hid he
 clear hne he
 generalize l.length=n at HN hlc1
 rw[enter_at _ Try.func21 (by kernel_rfl:Try.f21.body=some body21),Try.ntmps21]
 walk_nrm
 simp only[body21,Try.f21,Option.getD_some]
 refine co_seq hZ hX ?_
 refine co_code hZ hX TT (by decide) (by kernel_rfl) (by kernel_rfl) fun K hK u hu=> ?_
 go_wp2_with fail
 refine hK.out _ _ (co_same hu ?_)
 clear hK K hu u
 refine co_seq hZ hX ?_
 refine co_block hZ hX ?_
 refine co_seq hZ hX ?_
 refine c_region (n:=0) (J:=fun _ a=>Co Try.prog Z 0 X a v) (Co.calmly hZ hX) [0,1,2] rfl ?_
 refine co_value hZ hX (WV o) rfl rfl (by decide) (fun _=>by simp[go_sem,execOp,Act.eval]) (fun _=>by simp[go_sem,execOp,Act.eval]) ?_
 walk_nrm
 refine co_op hZ hX TT.toTable (by decide) (R:=fun y u=>y=.bool false∧Same u v) rfl rfl (by kernel_rfl) (fun u hu=>⟨.bool false,u, ?_,rfl,hu⟩) (fun y u hh=> ?_)
 ·cases o<;>simp[go_sem,execOp,Act.eval,WV]
 obtain⟨rfl,hu⟩:=hh
 refine co_same hu ?_
 clear hu u
 walk_nrm
 refine co_value hZ hX (.bool false) rfl rfl (by decide) (fun _=>by simp[go_sem,execOp,Act.eval]) (fun _=>by simp[go_sem,execOp,Act.eval]) ?_
 walk_nrm
 refine co_region_end hZ hX ?_
 refine co_cond (t:=false) hZ hX (by simp[Act.eval]) ?_
 simp only[Bool.false_eq_true,↓reduceIte]
 refine co_seq hZ hX ?_
 by_cases h0:n=0
 ·have hz:z=2:=by rw[←HN.out];simp[newE,h0]
  subst hz
  subst h0
  clear HN
  refine co_code hZ hX TT (by decide) (by kernel_rfl) (by kernel_rfl) fun K hK u hu=> ?_
  go_wp2_with fail
  refine hK.out _ _ (co_same hu ?_)
  clear hK K hu u
  refine co_cond (t:=true) hZ hX (by simp[Act.eval]) ?_
  simp only[↓reduceIte]
  refine co_seq hZ hX ?_
  refine co_code hZ hX TT (by decide) (by kernel_rfl) (by kernel_rfl) fun K hK u hu=> ?_
  go_wp2_with fail
  refine hK.out _ _ (co_same hu ?_)
  clear hK K hu u
  refine co_ret hZ hX ?_
  refine c_leave (n:=0) (J:=fun _ a=>Co Try.prog Z 0 X a v) (Co.calmly hZ hX) (x:=.tuple #[.pointer none,.int .i64 2]) rfl rfl Try.func21 (fun w=>by simp[results,Try.results21,go_sem]) (fun w=>by simp[results,Try.results21,go_sem]) ?_
  exact HP.out _ _ v ⟨rfl,rfl,rfl⟩
 have h1:¬((n:Int)<1):=by omega
 by_cases h2:(200:Int)<(n:Int)
 ·have hz:z=2:=by rw[←HN.out];simp[newE,show 200<n by omega]
  subst hz
  clear HN
  refine co_code hZ hX TT (by decide) (by kernel_rfl) (by kernel_rfl) fun K hK u hu=> ?_
  go_wp2_with fail
  refine hK.out _ _ (co_same hu ?_)
  clear hK K hu u
  refine co_cond (t:=true) hZ hX (by simp[Act.eval]) ?_
  simp only[↓reduceIte]
  refine co_seq hZ hX ?_
  refine co_code hZ hX TT (by decide) (by kernel_rfl) (by kernel_rfl) fun K hK u hu=> ?_
  go_wp2_with fail
  refine hK.out _ _ (co_same hu ?_)
  clear hK K hu u
  refine co_ret hZ hX ?_
  refine c_leave (n:=0) (J:=fun _ a=>Co Try.prog Z 0 X a v) (Co.calmly hZ hX) (x:=.tuple #[.pointer none,.int .i64 2]) rfl rfl Try.func21 (fun w=>by simp[results,Try.results21,go_sem]) (fun w=>by simp[results,Try.results21,go_sem]) ?_
  exact HP.out _ _ v ⟨rfl,rfl,rfl⟩
 refine co_code hZ hX TT (by decide) (by kernel_rfl) (by kernel_rfl) fun K hK u hu=> ?_
 go_wp2_with fail
 refine hK.out _ _ (co_same hu ?_)
 clear hK K hu u
 refine co_cond (t:=false) hZ hX (by simp[Act.eval]) ?_
 simp only[Bool.false_eq_true,↓reduceIte]
 refine co_seq hZ hX ?_
 have h0':n≠0:=h0
 clear h0
 by_cases h3:most<0
 ·have hz:z=7:=by rw[←HN.out];simp[newE,h0',show¬200<n by omega,h3]
  subst hz
  clear HN
  refine co_code hZ hX TT (by decide) (by kernel_rfl) (by kernel_rfl) fun K hK u hu=> ?_
  go_wp2_with fail
  refine hK.out _ _ (co_same hu ?_)
  clear hK K hu u
  refine co_cond (t:=true) hZ hX (by simp[Act.eval]) ?_
  simp only[↓reduceIte]
  refine co_seq hZ hX ?_
  refine co_code hZ hX TT (by decide) (by kernel_rfl) (by kernel_rfl) fun K hK u hu=> ?_
  go_wp2_with fail
  refine hK.out _ _ (co_same hu ?_)
  clear hK K hu u
  refine co_ret hZ hX ?_
  refine c_leave (n:=0) (J:=fun _ a=>Co Try.prog Z 0 X a v) (Co.calmly hZ hX) (x:=.tuple #[.pointer none,.int .i64 7]) rfl rfl Try.func21 (fun w=>by simp[results,Try.results21,go_sem]) (fun w=>by simp[results,Try.results21,go_sem]) ?_
  exact HP.out _ _ v ⟨rfl,rfl,rfl⟩
 by_cases h4:(20000:Int)<most
 ·have hz:z=7:=by rw[←HN.out];simp[newE,h0',show¬200<n by omega,h4]
  subst hz
  clear HN
  refine co_code hZ hX TT (by decide) (by kernel_rfl) (by kernel_rfl) fun K hK u hu=> ?_
  go_wp2_with fail
  refine hK.out _ _ (co_same hu ?_)
  clear hK K hu u
  refine co_cond (t:=true) hZ hX (by simp[Act.eval]) ?_
  simp only[↓reduceIte]
  refine co_seq hZ hX ?_
  refine co_code hZ hX TT (by decide) (by kernel_rfl) (by kernel_rfl) fun K hK u hu=> ?_
  go_wp2_with fail
  refine hK.out _ _ (co_same hu ?_)
  clear hK K hu u
  refine co_ret hZ hX ?_
  refine c_leave (n:=0) (J:=fun _ a=>Co Try.prog Z 0 X a v) (Co.calmly hZ hX) (x:=.tuple #[.pointer none,.int .i64 7]) rfl rfl Try.func21 (fun w=>by simp[results,Try.results21,go_sem]) (fun w=>by simp[results,Try.results21,go_sem]) ?_
  exact HP.out _ _ v ⟨rfl,rfl,rfl⟩
 exact absurd (by rw[←HN.out];simp[newE,h0',show¬200<n by omega,h3,h4]) HE.out
end Co
end Go.Proofs.Ytlngbdggehghgaa
