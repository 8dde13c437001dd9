/-
  The operations of plain code obey the law of CoA (Simu): fifth lot: methods. Conditions: as each theorem says.
  Plain operations (no goroutines, no channels, calls of plain functions alone) obey the law of CoA and yield a value, nothing, or a call of a plain function. Conditions: as each theorem says.
-/
import Derived.Test.YtlngbdggehghgaaCoF
namespace Go.Proofs.Ytlngbdggehghgaa
set_option linter.unusedSimpArgs false
set_option linter.unusedVariables false
namespace Co
section
variable {α β:Type} {P:Program} {H:Nat→Option Nat}
theorem simu_bind_post {x:Sem α} {f:α→Sem β} {Q:α→Prop} (hx:Simu P H x) (hq:∀v a v' es es',x.runT P v es=(.ok a v',es')→Q a) (hf:∀a,Q a→Simu P H (f a)):Simu P H (x.bind f):=by
 refine⟨fun H'=> ?_,fun v es y v' es' hn h=> ?_⟩
 rotate_left
 ·rw[Sem.runT_bind'] at h
  cases hr:x.runT P v es with
  |mk r es1=>
   rw[hr] at h
   cases r with
   |halt z w1=>
    simp only[Prod.mk.injEq,Result.halt.injEq] at h
    obtain⟨h1,k,h2⟩:=hx.2 _ _ _ _ _ hn hr
    rw[←h.1.1]
    refine⟨h1,k,fun u fs hs ha=> ?_⟩
    obtain⟨u',gs,e⟩:=h2 u fs hs ha
    exact⟨u',gs,by rw[Sem.runT_bind',e]⟩
   |ok a v1=>
    simp only at h
    obtain⟨t1,n1,s1,k1,d1,F⟩:=hx.1 (fun _=>none) v a v1 es es1 hn (fun _ _ e=>by cases e) hr
    obtain⟨h1,k,h2⟩:=(hf a (hq _ _ _ _ _ hr)).2 _ _ _ _ _ n1 h
    refine⟨h1,k1+k,fun u fs hs ha=> ?_⟩
    obtain⟨u1,g1,e1,v1',a1,b1,c1,o1⟩:=F u fs hs.vis (fun t q h=>ha t q (by omega))
    obtain⟨u2,g2,e2⟩:=h2 u1 (fs++g1) v1'.same (fun t q h=>by
     rw[a1,b1,d1,t1]
     have:=ha (k1+t) q (by omega)
     rw[←Nat.add_assoc,←Nat.add_assoc] at this
     exact this)
    exact⟨u2,g2,by rw[Sem.runT_bind',e1];exact e2⟩
 intro v b v' es es' hn hH h
 have h0:=h
 rw[Sem.runT_bind'] at h
 cases hr:x.runT P v es with
 |mk r es1=>
  rw[hr] at h
  cases r with
  |halt y w1=>simp at h
  |ok a v1=>
   simp only at h
   obtain⟨t1,n1,s1,k1,d1,F1⟩:=hx.1 H' v a v1 es es1 hn hH hr
   obtain⟨t2,n2,s2,k2,d2,F2⟩:=(hf a (hq _ _ _ _ _ hr)).1 H' v1 b v' es1 es' n1 (fun r n e=>Nat.lt_of_lt_of_le (hH r n e) s1) h
   refine⟨t2.trans t1,n2,Nat.le_trans s1 s2,k1+k2,by rw[d2,d1];omega,fun w fs hv ht=> ?_⟩
   obtain⟨w1,g1,e1,v1',a1,b1,c1,o1⟩:=F1 w fs hv (fun t q h=>ht t q (by omega))
   obtain⟨w2,g2,e2,v2',a2,b2,c2,o2⟩:=F2 w1 (fs++g1) v1' (fun t q h=>by
    rw[a1,b1,d1,t1]
    have:=ht (k1+t) q (by omega)
    rw[←Nat.add_assoc,←Nat.add_assoc] at this
    exact this)
   refine⟨w2,g1++g2, ?_,v2',a2.trans a1,by rw[b2,b1];omega,c1.trans c2,fun e he=> ?_⟩
   ·rw[Sem.runT_bind',e1]
    simp only
    rw[e2,Array.append_assoc]
   ·rcases Array.mem_append.1 he with h1|h1
    ·refine(o1 e h1).mono ?_
     rw[←v1'.size,←v2'.size];exact s2
    ·exact o2 e h1
theorem simu_get (t:TypeId) (x:Place):Simu P H (x.get t):=by
 unfold Place.get
 repeat' (first
  |exact simu_pure' _
  |exact simu_pure _
  |exact simu_unsupported _ (fun _ h=>by cases h)
  |exact simu_stuck _
  |exact simu_goPanic _
  |assumption
  |dsimp only
  |exact simu_runtimePanic _
  |exact simu_boundsPanic _ _ _ _
  |exact simu_typeInfo _
  |exact simu_underlying _
  |exact simu_sizeOf _
  |exact simu_isAgg _
  |exact simu_zeroValue _
  |exact simu_loadCells _ _
  |exact simu_storeCells _ _ _
  |exact simu_loadVar _ _
  |exact simu_storeVar _ _ _
  |exact simu_newRow _ _
  |exact simu_newVar _ _
  |exact simu_part _ _ _
  |exact simu_asIntOf _
  |exact simu_asInt _
  |exact simu_asBool _
  |exact simu_asString _
  |exact simu_asAgg _
  |exact simu_asAddr _
  |exact simu_sureAddr _
  |exact simu_choose _
  |exact simu_frozen _
  |exact simu_askRoom _
  |exact simu_noRoom
  |exact simu_load _
  |exact simu_store _ _
  |exact simu_numberAt _
  |exact simu_noView _
  |exact simu_byteOf _
  |exact simu_fieldPlace _ _
  |exact simu_behind _
  |exact simu_sameAddr _ _
  |exact simu_samePointer _ _
  |exact simu_elemOf _
  |refine simu_forInA _ _ _ (fun _ _=> ?_)
  |refine simu_forInR _ _ _ (fun _ _=> ?_)
  |exact simu_program
  |refine simu_map ?_
  |refine simu_bind' ?_ (fun _=> ?_)
  |refine simu_ite ?_ ?_
  |split)
theorem simu_follow:∀(l:List FieldStep) (t:TypeId) (x:Place),Simu P H (follow l t x)
 |[],_,_=>simu_pure' _
 |s::l,t,x=>by
  have ih:=simu_follow l
  unfold follow
  repeat' (first
   |exact simu_pure' _
   |exact simu_pure _
   |exact simu_unsupported _ (fun _ h=>by cases h)
   |exact simu_stuck _
   |exact simu_goPanic _
   |assumption
   |exact ih _ _
   |exact simu_get _ _
   |dsimp only
   |exact simu_runtimePanic _
   |exact simu_boundsPanic _ _ _ _
   |exact simu_typeInfo _
   |exact simu_underlying _
   |exact simu_sizeOf _
   |exact simu_isAgg _
   |exact simu_zeroValue _
   |exact simu_loadCells _ _
   |exact simu_storeCells _ _ _
   |exact simu_loadVar _ _
   |exact simu_storeVar _ _ _
   |exact simu_newRow _ _
   |exact simu_newVar _ _
   |exact simu_part _ _ _
   |exact simu_asIntOf _
   |exact simu_asInt _
   |exact simu_asBool _
   |exact simu_asString _
   |exact simu_asAgg _
   |exact simu_asAddr _
   |exact simu_sureAddr _
   |exact simu_choose _
   |exact simu_frozen _
   |exact simu_askRoom _
   |exact simu_noRoom
   |exact simu_load _
   |exact simu_store _ _
   |exact simu_numberAt _
   |exact simu_noView _
   |exact simu_byteOf _
   |exact simu_fieldPlace _ _
   |exact simu_behind _
   |exact simu_sameAddr _ _
   |exact simu_samePointer _ _
   |exact simu_elemOf _
   |refine simu_forInA _ _ _ (fun _ _=> ?_)
   |refine simu_forInR _ _ _ (fun _ _=> ?_)
   |exact simu_program
   |refine simu_map ?_
   |refine simu_bind' ?_ (fun _=> ?_)
   |refine simu_ite ?_ ?_
   |split)
theorem simu_followBlind:∀(l:List FieldStep) (t:TypeId) (x:Option Value),Simu P H (followBlind l t x)
 |[],_,_=>simu_pure' _
 |s::l,t,x=>by
  have ih:=simu_followBlind l
  unfold followBlind
  repeat' (first
   |exact simu_pure' _
   |exact simu_pure _
   |exact simu_unsupported _ (fun _ h=>by cases h)
   |exact simu_stuck _
   |exact simu_goPanic _
   |assumption
   |exact ih _ _
   |dsimp only
   |exact simu_runtimePanic _
   |exact simu_boundsPanic _ _ _ _
   |exact simu_typeInfo _
   |exact simu_underlying _
   |exact simu_sizeOf _
   |exact simu_isAgg _
   |exact simu_zeroValue _
   |exact simu_loadCells _ _
   |exact simu_storeCells _ _ _
   |exact simu_loadVar _ _
   |exact simu_storeVar _ _ _
   |exact simu_newRow _ _
   |exact simu_newVar _ _
   |exact simu_part _ _ _
   |exact simu_asIntOf _
   |exact simu_asInt _
   |exact simu_asBool _
   |exact simu_asString _
   |exact simu_asAgg _
   |exact simu_asAddr _
   |exact simu_sureAddr _
   |exact simu_choose _
   |exact simu_frozen _
   |exact simu_askRoom _
   |exact simu_noRoom
   |exact simu_load _
   |exact simu_store _ _
   |exact simu_numberAt _
   |exact simu_noView _
   |exact simu_byteOf _
   |exact simu_fieldPlace _ _
   |exact simu_behind _
   |exact simu_sameAddr _ _
   |exact simu_samePointer _ _
   |exact simu_elemOf _
   |refine simu_forInA _ _ _ (fun _ _=> ?_)
   |refine simu_forInR _ _ _ (fun _ _=> ?_)
   |exact simu_program
   |refine simu_map ?_
   |refine simu_bind' ?_ (fun _=> ?_)
   |refine simu_ite ?_ ?_
   |split)
theorem simu_wrapNil (xt:TypeId) (p:Value) (n:String):Simu P H (Builtin.ssaWrapNilChk_ #[xt] xt #[p,strVal "",strVal n]):=by
 unfold strVal Builtin.ssaWrapNilChk_
 cases p with
 |pointer a=>
  cases a with
  |some a=>exact simu_pure' _
  |none=>
   show Simu P H (choose (.extern "ssa:wrapnilchk.dereferenced" 2)>>=_)
   repeat' (first
    |exact simu_pure' _
    |exact simu_pure _
    |exact simu_unsupported _ (fun _ h=>by cases h)
    |exact simu_stuck _
    |exact simu_goPanic _
    |assumption
    |dsimp only
    |exact simu_runtimePanic _
    |exact simu_boundsPanic _ _ _ _
    |exact simu_typeInfo _
    |exact simu_underlying _
    |exact simu_sizeOf _
    |exact simu_isAgg _
    |exact simu_zeroValue _
    |exact simu_loadCells _ _
    |exact simu_storeCells _ _ _
    |exact simu_loadVar _ _
    |exact simu_storeVar _ _ _
    |exact simu_newRow _ _
    |exact simu_newVar _ _
    |exact simu_part _ _ _
    |exact simu_asIntOf _
    |exact simu_asInt _
    |exact simu_asBool _
    |exact simu_asString _
    |exact simu_asAgg _
    |exact simu_asAddr _
    |exact simu_sureAddr _
    |exact simu_choose _
    |exact simu_frozen _
    |exact simu_askRoom _
    |exact simu_noRoom
    |exact simu_load _
    |exact simu_store _ _
    |exact simu_numberAt _
    |exact simu_noView _
    |exact simu_byteOf _
    |exact simu_fieldPlace _ _
    |exact simu_behind _
    |exact simu_sameAddr _ _
    |exact simu_samePointer _ _
    |exact simu_elemOf _
    |refine simu_forInA _ _ _ (fun _ _=> ?_)
    |refine simu_forInR _ _ _ (fun _ _=> ?_)
    |exact simu_program
    |refine simu_map ?_
    |refine simu_bind' ?_ (fun _=> ?_)
    |refine simu_ite ?_ ?_
    |split)
 |_=>exact simu_stuck _
theorem simu_receiverAt (t:TypeId) (x:Place) (b:Bool) (s:Option String):Simu P H (receiverAt t x b s):=by
 unfold receiverAt
 repeat' (first
  |exact simu_pure' _
  |exact simu_pure _
  |exact simu_unsupported _ (fun _ h=>by cases h)
  |exact simu_stuck _
  |exact simu_goPanic _
  |assumption
  |exact simu_get _ _
  |exact simu_wrapNil _ _ _
  |dsimp only
  |exact simu_runtimePanic _
  |exact simu_boundsPanic _ _ _ _
  |exact simu_typeInfo _
  |exact simu_underlying _
  |exact simu_sizeOf _
  |exact simu_isAgg _
  |exact simu_zeroValue _
  |exact simu_loadCells _ _
  |exact simu_storeCells _ _ _
  |exact simu_loadVar _ _
  |exact simu_storeVar _ _ _
  |exact simu_newRow _ _
  |exact simu_newVar _ _
  |exact simu_part _ _ _
  |exact simu_asIntOf _
  |exact simu_asInt _
  |exact simu_asBool _
  |exact simu_asString _
  |exact simu_asAgg _
  |exact simu_asAddr _
  |exact simu_sureAddr _
  |exact simu_choose _
  |exact simu_frozen _
  |exact simu_askRoom _
  |exact simu_noRoom
  |exact simu_load _
  |exact simu_store _ _
  |exact simu_numberAt _
  |exact simu_noView _
  |exact simu_byteOf _
  |exact simu_fieldPlace _ _
  |exact simu_behind _
  |exact simu_sameAddr _ _
  |exact simu_samePointer _ _
  |exact simu_elemOf _
  |refine simu_forInA _ _ _ (fun _ _=> ?_)
  |refine simu_forInR _ _ _ (fun _ _=> ?_)
  |exact simu_program
  |refine simu_map ?_
  |refine simu_bind' ?_ (fun _=> ?_)
  |refine simu_ite ?_ ?_
  |split)
theorem simu_nilAhead:∀(n:Nat) (t:TypeId) (v:Value) (s:String),Simu P H (nilAhead n t v s)
 |0,_,_,_=>simu_pure' _
 |n+1,t,v,s=>by
  have ih:=simu_nilAhead n
  unfold nilAhead
  repeat' (first
   |exact simu_pure' _
   |exact simu_pure _
   |exact simu_unsupported _ (fun _ h=>by cases h)
   |exact simu_stuck _
   |exact simu_goPanic _
   |assumption
   |exact ih _ _ _
   |exact simu_followBlind _ _ _
   |dsimp only
   |exact simu_runtimePanic _
   |exact simu_boundsPanic _ _ _ _
   |exact simu_typeInfo _
   |exact simu_underlying _
   |exact simu_sizeOf _
   |exact simu_isAgg _
   |exact simu_zeroValue _
   |exact simu_loadCells _ _
   |exact simu_storeCells _ _ _
   |exact simu_loadVar _ _
   |exact simu_storeVar _ _ _
   |exact simu_newRow _ _
   |exact simu_newVar _ _
   |exact simu_part _ _ _
   |exact simu_asIntOf _
   |exact simu_asInt _
   |exact simu_asBool _
   |exact simu_asString _
   |exact simu_asAgg _
   |exact simu_asAddr _
   |exact simu_sureAddr _
   |exact simu_choose _
   |exact simu_frozen _
   |exact simu_askRoom _
   |exact simu_noRoom
   |exact simu_load _
   |exact simu_store _ _
   |exact simu_numberAt _
   |exact simu_noView _
   |exact simu_byteOf _
   |exact simu_fieldPlace _ _
   |exact simu_behind _
   |exact simu_sameAddr _ _
   |exact simu_samePointer _ _
   |exact simu_elemOf _
   |refine simu_forInA _ _ _ (fun _ _=> ?_)
   |refine simu_forInR _ _ _ (fun _ _=> ?_)
   |exact simu_program
   |refine simu_map ?_
   |refine simu_bind' ?_ (fun _=> ?_)
   |refine simu_ite ?_ ?_
   |split)
theorem simu_method:∀(n:Nat) (t:TypeId) (v:Value) (s:String),Simu P H (method n t v s)
 |0,_,_,_=>simu_unsupported _ (fun _ h=>by cases h)
 |n+1,t,v,s=>by
  have ih:=simu_method n
  unfold method
  repeat' (first
   |exact simu_pure' _
   |exact simu_pure _
   |exact simu_unsupported _ (fun _ h=>by cases h)
   |exact simu_stuck _
   |exact simu_goPanic _
   |assumption
   |exact ih _ _ _
   |exact simu_follow _ _ _
   |exact simu_get _ _
   |exact simu_receiverAt _ _ _ _
   |dsimp only
   |exact simu_runtimePanic _
   |exact simu_boundsPanic _ _ _ _
   |exact simu_typeInfo _
   |exact simu_underlying _
   |exact simu_sizeOf _
   |exact simu_isAgg _
   |exact simu_zeroValue _
   |exact simu_loadCells _ _
   |exact simu_storeCells _ _ _
   |exact simu_loadVar _ _
   |exact simu_storeVar _ _ _
   |exact simu_newRow _ _
   |exact simu_newVar _ _
   |exact simu_part _ _ _
   |exact simu_asIntOf _
   |exact simu_asInt _
   |exact simu_asBool _
   |exact simu_asString _
   |exact simu_asAgg _
   |exact simu_asAddr _
   |exact simu_sureAddr _
   |exact simu_choose _
   |exact simu_frozen _
   |exact simu_askRoom _
   |exact simu_noRoom
   |exact simu_load _
   |exact simu_store _ _
   |exact simu_numberAt _
   |exact simu_noView _
   |exact simu_byteOf _
   |exact simu_fieldPlace _ _
   |exact simu_behind _
   |exact simu_sameAddr _ _
   |exact simu_samePointer _ _
   |exact simu_elemOf _
   |refine simu_forInA _ _ _ (fun _ _=> ?_)
   |refine simu_forInR _ _ _ (fun _ _=> ?_)
   |exact simu_program
   |refine simu_map ?_
   |refine simu_bind' ?_ (fun _=> ?_)
   |refine simu_ite ?_ ?_
   |split)
end
end Co
end Go.Proofs.Ytlngbdggehghgaa

namespace Go.Proofs.Ytlngbdggehghgaa
set_option linter.unusedSimpArgs false
set_option linter.unusedVariables false
namespace Co
def plainB:Builtin→Bool
 | .append| .len| .min=>true
 |_=>false
def isIntD:Option TypeDesc→Bool
 |some (.int _)=>true
 |_=>false
def plainOp (P:Program) (L:Nat→Bool) (M:String→Bool):Op→Bool
 | .move _| .assign _| .pick .. | .alloc _| .box .. | .build .. | .buildSlice .. | .load .. | .store .. | .nilCheck _| .binOp .. | .unOp .. | .makeInterface .. | .makeSlice .. | .slice .. | .fieldAddr .. | .indexAddr .. | .extract .. =>true
 | .convert s d _=>isIntD (P.underlying s)&&isIntD (P.underlying d)
 | .call {callee:=.builtin b,.. }=>plainB b
 | .call {callee:=.value (.func f),.. }=>L f
 | .call {callee:=.invoke _ m,.. }=>M m
 |_=>false
structure Table (P:Program) (L:Nat→Bool) (M:String→Bool):Prop where
 fn:∀f,L f=true→∃fn,P.funcs[f]?=some fn∧fn.body.isSome=true∧(fn.name== "runtime.NumGoroutine")=false
 meth:∀(t:TypeId) (i:TypeInfo) (m:Method) (f:FuncId) (b:Bool),P.info? t=some i→i.methods.find? (·.name==m.name)=some m→M m.name=true→m.func=some (f,b)→L f=true
section
variable {α β:Type} {P:Program} {H:Nat→Option Nat} {L:Nat→Bool} {M:String→Bool}
theorem run_callFunc (T:Table P L M) {f:Nat} (hf:L f=true) (args:Array Value) (w:World) (es:Array Event):(callFunc f args).runT P w es=(.ok (.enter f args) w,es):=by
 obtain⟨fn,h1,h2,h3⟩:=T.fn f hf
 have hn:fn.body.isNone=false:=by cases hb:fn.body<;>simp_all
 unfold callFunc
 simp only[program,Bind.bind,Sem.bind,Sem.runT,h1,h3,hn,Bool.false_eq_true,if_false,pure]
theorem simu_callFunc (T:Table P L M) {f:Nat} (hf:L f=true) (args:Array Value):Simu P H (callFunc f args):=
 simu_eq (s':=pure (.enter f args)) (fun w es=>by rw[run_callFunc T hf];rfl) (simu_pure' _)
theorem bind_ok {x:Sem α} {f:α→Sem β} {v:World} {es es':Array Event} {b:β} {v':World} (h:(x.bind f).runT P v es=(.ok b v',es')):
 ∃a v1 es1,x.runT P v es=(.ok a v1,es1)∧(f a).runT P v1 es1=(.ok b v',es'):=by
 rw[Sem.runT_bind'] at h
 cases hr:x.runT P v es with
 |mk r es1=>
  rw[hr] at h
  cases r with
  |halt y w1=>simp at h
  |ok a v1=>exact⟨a,v1,es1,rfl,h⟩
theorem method_in (T:Table P L M):∀(n:Nat) (t:TypeId) (x:Value) (s:String),M s=true→∀v r v' es es',(method n t x s).runT P v es=(.ok r v',es')→L r.1=true
 |0,_,_,_,_=>fun v r v' es es' h=>absurd h (never_unsup _ _ _ _ _ _)
 |n+1,t,x,s,hs=>by
  intro v r v' es es' h
  unfold method at h
  obtain⟨i,v1,es1,h1,h2⟩:=bind_ok h
  have hi:P.info? t=some i:=by
   unfold typeInfo at h1
   simp only[program,Bind.bind,Sem.bind,Sem.runT] at h1
   cases e:P.info? t with
   |none=>rw[e] at h1;simp[stuck,Sem.runT,-Sem.runT_eq] at h1
   |some j=>
    rw[e] at h1
    simp only[pure,Sem.runT,Prod.mk.injEq,Result.ok.injEq] at h1
    rw[h1.1.1]
  cases hm:i.methods.find? (·.name==s) with
  |none=>simp only[hm] at h2;exact absurd h2 (by simp[stuck,Sem.runT,-Sem.runT_eq])
  |some m=>
   simp only[hm] at h2
   have hname:m.name=s:=by
    have:=Array.find?_some hm
    simpa using this
   obtain⟨⟨xt,y⟩,v2,es2,h3,h4⟩:=bind_ok h2
   simp only at h4
   cases hf:m.func with
   |none=>
    simp only[hf] at h4
    obtain⟨z,v3,es3,h5,h6⟩:=bind_ok h4
    cases z<;>first
     |exact method_in T n _ _ s hs _ _ _ _ _ h6
     |exact absurd h6 (by simp[stuck,runtimePanic,program,goPanic,Bind.bind,Sem.bind,Sem.runT,-Sem.runT_eq])
   |some fb=>
    obtain⟨f,b⟩:=fb
    simp only[hf] at h4
    obtain⟨z,v3,es3,h5,h6⟩:=bind_ok h4
    simp only[pure,Sem.runT,Prod.mk.injEq,Result.ok.injEq] at h6
    obtain⟨⟨rfl,_⟩,_⟩:=h6
    exact T.meth t i m f b hi (by rw[hname];exact hm) (by rw[hname];exact hs) hf
theorem simu_callMethod (T:Table P L M) (recv:Value) {s:String} (hs:M s=true) (args:Array Value):Simu P H (callMethod recv s args):=by
 unfold callMethod
 split
 ·refine simu_bind' simu_program fun p=> ?_
  refine simu_bind_post (Q:=fun r=>L r.1=true) (simu_method _ _ _ _) (fun v a v' es es' h=>method_in T _ _ _ _ hs _ _ _ _ _ h) fun r hr=> ?_
  exact simu_callFunc T hr _
 ·exact simu_runtimePanic _
 ·exact simu_stuck _
def NextOk (L:Nat→Bool) (n:Next):Prop:=(∃x,n=.value x)∨n=.skip∨∃f args,n=.enter f args∧L f=true
theorem next_value {s:Sem Value} {v v':World} {es es':Array Event} {n:Next} (h:(s.bind fun x=>pure (Next.value x)).runT P v es=(.ok n v',es')):NextOk L n:=by
 obtain⟨a,v1,es1,_,h2⟩:=bind_ok h
 simp only[pure,Sem.runT,Prod.mk.injEq,Result.ok.injEq] at h2
 exact .inl ⟨a,h2.1.1.symm⟩
theorem next_skip {s:Sem Unit} {v v':World} {es es':Array Event} {n:Next} (h:(s.bind fun _=>pure Next.skip).runT P v es=(.ok n v',es')):NextOk L n:=by
 obtain⟨a,v1,es1,_,h2⟩:=bind_ok h
 simp only[pure,Sem.runT,Prod.mk.injEq,Result.ok.injEq] at h2
 exact .inr (.inl h2.1.1.symm)
theorem simu_val {s:Sem Value} (h:Simu P H s):Simu P H (s.bind fun x=>pure (Next.value x)):=simu_bind h fun _=>simu_pure' _
theorem simu_unit {s:Sem Unit} (h:Simu P H s):Simu P H (s.bind fun _=>pure Next.skip):=simu_bind h fun _=>simu_pure' _
theorem resolve_fn (a:Act) (c:Call) (t:TypeId) (f:FuncId) (hc:c.callee=.value (.func f)):resolve a.eval c t=pure {target:=.fn (.func f) #[],args:=c.args.map a.eval}:=by
 unfold resolve
 rw[hc]
 simp[Act.eval,Deferred.ofValue]
theorem arr0 (x:Value) (l:Array Value):(#[x]++l)[0]?=some x:=by
 rcases l with⟨l⟩
 simp
theorem arr1 (x:Value) (l:Array Value):(#[x]++l).extract 1 (#[x]++l).size=l:=by
 rcases l with⟨l⟩
 simp
theorem plain_op (T:Table P L M) (o:Oper) (ho:plainOp P L M o.op=true) (a:Act):
 Simu P H (execOp a.eval o)∧∀v n v' es es',(execOp a.eval o).runT P v es=(.ok n v',es')→NextOk L n:=by
 obtain⟨dst,op,ty,pos,after,guard⟩:=o
 simp only at ho
 cases op
 case move x=>exact⟨simu_pure' _,fun v n v' es es' h=>by
  simp only[execOp,pure,Sem.runT,Prod.mk.injEq,Result.ok.injEq] at h
  exact .inl ⟨_,h.1.1.symm⟩⟩
 case assign x=>exact⟨simu_pure' _,fun v n v' es es' h=>by
  simp only[execOp,pure,Sem.runT,Prod.mk.injEq,Result.ok.injEq] at h
  exact .inl ⟨_,h.1.1.symm⟩⟩
 case pick c x y=>exact⟨simu_bind (simu_asBool _) fun _=>simu_pure' _,fun v n v' es es' h=>by
  obtain⟨b,v1,es1,_,h2⟩:=bind_ok h
  simp only[pure,Sem.runT,Prod.mk.injEq,Result.ok.injEq] at h2
  exact .inl ⟨_,h2.1.1.symm⟩⟩
 case alloc e=>exact⟨simu_val (simu_alloc _ _ _),fun v n v' es es' h=>next_value h⟩
 case box e x=>exact⟨simu_val (simu_box _ _),fun v n v' es es' h=>next_value h⟩
 case build t p=>exact⟨simu_val (simu_build _ _),fun v n v' es es' h=>next_value h⟩
 case buildSlice t n p=>exact⟨simu_val (simu_buildSlice _ _ _),fun v n v' es es' h=>next_value h⟩
 case load t x=>exact⟨simu_val (simu_loadAt _ _),fun v n v' es es' h=>next_value h⟩
 case store t x y=>exact⟨simu_unit (simu_storeAt _ _ _),fun v n v' es es' h=>next_skip h⟩
 case nilCheck x=>
  have hp:∀(y:Value),Simu P H (pure (.value y):Sem Next)∧∀(v:World) (n:Next) (v':World) (es es':Array Event),(pure (.value y):Sem Next).runT P v es=(.ok n v',es')→NextOk L n:=fun y=>⟨simu_pure' _,fun v n v' es es' h=>by
   simp only[pure,Sem.runT,Prod.mk.injEq,Result.ok.injEq] at h
   exact .inl ⟨_,h.1.1.symm⟩⟩
  have hr:Simu P H (runtimePanic .nilDeref:Sem Next)∧∀(v:World) (n:Next) (v':World) (es es':Array Event),(runtimePanic .nilDeref:Sem Next).runT P v es=(.ok n v',es')→NextOk L n:=⟨simu_runtimePanic _,fun v n v' es es' h=>by
   simp[runtimePanic,program,goPanic,Bind.bind,Sem.bind,Sem.runT,-Sem.runT_eq] at h⟩
  simp only[execOp]
  split
  ·exact hr
  ·exact hr
  ·exact hr
  ·split
   ·exact hr
   ·refine⟨simu_bind' simu_program fun _=>simu_bind' (simu_nilAhead _ _ _ _) fun _=> ?_,fun v n v' es es' h=> ?_⟩
    ·split
     ·exact simu_bind' (simu_unsupported _ (fun _ h=>by cases h)) fun _=>simu_pure' _
     ·exact simu_pure' _
    ·obtain⟨p1,v1,es1,_,h2⟩:=bind_ok h
     obtain⟨p2,v2,es2,_,h3⟩:=bind_ok h2
     split at h3
     ·obtain⟨p3,v3,es3,h4,_⟩:=bind_ok h3
      exact absurd h4 (never_unsup _ _ _ _ _ _)
     ·exact(hp _).2 _ _ _ _ _ h3
   ·exact hp _
  ·exact hp _
 case binOp op t x y u=>exact⟨simu_val (simu_bind' (simu_eqGuard _ _ _ _ _ _) fun _=>simu_binOp _ _ _ _),fun v n v' es es' h=>next_value h⟩
 case unOp op t x=>exact⟨simu_val (simu_unary _ _),fun v n v' es es' h=>next_value h⟩
 case convert s d x=>
  simp only[plainOp,Bool.and_eq_true] at ho
  obtain⟨h1,h2⟩:=ho
  cases e1:P.underlying s with
  |none=>rw[e1] at h1;cases h1
  |some d1=>
   cases e2:P.underlying d with
   |none=>rw[e2] at h2;cases h2
   |some d2=>
    rw[e1] at h1
    rw[e2] at h2
    cases d1<;>first|cases h1|skip
    cases d2<;>first|cases h2|skip
    exact⟨simu_val (simu_convertI _ _ _ _ e1 e2 _),fun v n v' es es' h=>next_value h⟩
 case makeInterface t x=>exact⟨simu_val (simu_makeInterface _ _),fun v n v' es es' h=>next_value h⟩
 case makeSlice t x y=>exact⟨simu_val (simu_makeSlice _ _ _),fun v n v' es es' h=>next_value h⟩
 case slice t x l h m=>exact⟨simu_val (simu_sliceAt _ _ _ _ _),fun v n v' es es' h=>next_value h⟩
 case fieldAddr s x f=>exact⟨simu_val (simu_fieldAt _ _ _),fun v n v' es es' h=>next_value h⟩
 case indexAddr t x i=>exact⟨simu_val (simu_indexAt _ _ _),fun v n v' es es' h=>next_value h⟩
 case extract t i=>exact⟨simu_val (simu_extract _ _),fun v n v' es es' h=>next_value h⟩
 case call c=>
  obtain⟨callee,args,ats⟩:=c
  cases callee with
  |builtin b=>
   cases b<;>simp only[plainOp,plainB,Bool.false_eq_true] at ho
   ·exact⟨simu_val (simu_append _ _ _),fun v n v' es es' h=>next_value h⟩
   ·exact⟨simu_val (simu_len _ _ _),fun v n v' es es' h=>next_value h⟩
   ·exact⟨simu_val (simu_min _ _ _),fun v n v' es es' h=>next_value h⟩
  |invoke r m=>
   have hm:M m=true:=ho
   have key:execOp a.eval {dst,op:=.call {callee:=.invoke r m,args,argTypes:=ats},type:=ty,pos,after,guard}=callMethod (a.eval r) m (args.map a.eval):=by
    show invoke (.fn (.method m) #[]) (#[a.eval r]++args.map a.eval)=_
    have e0:=arr0 (a.eval r) (args.map a.eval)
    have e1:=arr1 (a.eval r) (args.map a.eval)
    unfold invoke
    simp only[e0,e1]
   rw[key]
   refine⟨simu_callMethod T _ hm _,fun v n v' es es' h'=> ?_⟩
   unfold callMethod at h'
   split at h'
   ·obtain⟨p1,v1,es1,_,h2⟩:=bind_ok h'
    obtain⟨r1,v2,es2,h3,h4⟩:=bind_ok h2
    have hL:=method_in T _ _ _ _ hm _ _ _ _ _ h3
    simp only at h4
    rw[run_callFunc T hL] at h4
    simp only[Prod.mk.injEq,Result.ok.injEq] at h4
    exact .inr (.inr ⟨_,_,h4.1.1.symm,hL⟩)
   ·simp[runtimePanic,program,goPanic,Bind.bind,Sem.bind,Sem.runT,-Sem.runT_eq] at h'
   ·simp[stuck,Sem.runT,-Sem.runT_eq] at h'
  |value x=>
   cases x with
   |func f=>
    have hf:L f=true:=ho
    have key:∀(w:World) (es:Array Event),(execOp a.eval {dst,op:=.call {callee:=.value (.func f),args,argTypes:=ats},type:=ty,pos,after,guard}).runT P w es=(.ok (.enter f (args.map a.eval)) w,es):=by
     intro w es
     show((resolve a.eval {callee:=.value (.func f),args,argTypes:=ats} ty).bind fun d=>invoke d.target d.args).runT P w es=_
     rw[resolve_fn a _ ty f rfl]
     show(callFunc f (args.map a.eval++#[])).runT P w es=_
     rw[Array.append_empty,run_callFunc T hf]
    refine⟨simu_eq (s':=pure (.enter f (args.map a.eval))) (fun w es=>by rw[key];rfl) (simu_pure' _),fun v n v' es es' h=> ?_⟩
    rw[key] at h
    simp only[Prod.mk.injEq,Result.ok.injEq] at h
    exact .inr (.inr ⟨_,_,h.1.1.symm,hf⟩)
   |_=>simp[plainOp] at ho
 all_goals(simp[plainOp] at ho)
end
end Co
end Go.Proofs.Ytlngbdggehghgaa
