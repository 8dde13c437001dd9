/-
  Silent steps, for whichever judgement of a goroutine is closed under them: the way of one whose channel was closed, of the last one, of one that only leaves, of the holder. Conditions: as0 each theorem says.
  The way of a worker whose channel was closed, through its deferred Done, Add(-1), up to the count and behind it. Conditions: as each theorem says.
  A worker of the scheduler: its record at the receive (home), its way out when its channel is closed, its way from its birth to the receive. Conditions: as each theorem says.
-/
import Derived.Test.YtlngbdggehghgaaCoZ
import Derived.Conc.WalkWords
import Derived.Conc.SmallLaws
import Derived.Conc.AtomicLaws2
import Derived.Conc.TokenWords
import Derived.Test.YtlngbdggehghgaaProg
import Derived.Conc.AtomicLaws
import Derived.KernelRfl
namespace Go.Proofs.Ytlngbdggehghgaa
set_option linter.unusedSimpArgs false
set_option linter.unusedVariables false
namespace Co
open Go.Conc
structure Calmly (P:Program) (m:Bool) (J:Nat→Goroutine→Prop):Prop where
 step:∀{n:Nat} {g g':Goroutine},g.status=.running→(∀w,stepG P m g w=.go g' w #[])→J n g'→J (n+1) g
theorem Way.calmly {P:Program} {s d:Nat} {rel:Bool}:Calmly P false (fun n g=>Way P s n d rel g):=⟨fun h1 h2 h3=> .calm h1 (fun w _ _=>h2 w) h3⟩
theorem Tail.calmly {P:Program} {s st:Nat}:Calmly P false (fun n g=>Tail P s n st g):=⟨fun h1 h2 h3=> .calm h1 h2 h3⟩
theorem quits_calmly {P:Program} {d:Nat}:Calmly P false (fun n g=>QuitsD P n d g):=⟨fun h1 h2 h3=> .ctl h1 h2 h3⟩
theorem Co.calmly {P:Program} {Z:Goal} {X:Fx} {h:Nat} {v:World} (hZ:Z.Ok P) (hX:X.Ok P h):Calmly P (h==0) (fun _ g=>Co P Z h X g v):=⟨fun h1 h2 h3=>co_still hZ hX h1 (fun w=>⟨_,rfl,h2 w⟩) h3⟩
theorem goes_calmly {P:Program} {m:Bool} {K:World→Prop} {Still:Loc→Prop} {B:Nat} {Q:Goroutine→World→Prop}:Calmly P m (fun n g=> ∀w,Goes P m (RK K) (DS Still B) Q n g w):=
 ⟨fun h1 h2 h3 w=>Goes.step h1 fun w₁ _=>by rw[h2 w₁];exact⟨ds_none _,h3 w₁⟩⟩
theorem goes_read {P:Program} {m:Bool} {K:World→Prop} {Still:Loc→Prop} {B:Nat} {Q:Goroutine→World→Prop} {n:Nat} {b:Frame} {a:Act} {k:List Item} {cs:List Frame} (x:Value) {ops:Array Oper} {i:Nat} {rest:List Nat} {o:Oper} (ad:Addr) (ho:ops[i]?=some o) (hw:Region.wanted o (yielded ops a.tmps)=true) (hk:b.kind≠.early)
 (hr:∀w,K w→(execOp a.eval o).run P w=.ok (.value x) w) (he:∀w,K w→(execOp a.eval o).events P w #[]=#[⟨.cell ad,false,false⟩]) (hS:Still (.cell ad)) (hB:ad.block<B)
 (h:∀w,Goes P m (RK K) (DS Still B) Q n (G (b.at (a.put o.dst x) (.inRegion ops rest::k)) cs) w) (w:World):Goes P m (RK K) (DS Still B) Q (n+1) (G (b.at a (.inRegion ops (i::rest)::k)) cs) w:=
 Goes.step rfl fun w₁ h₁=>by
  rw[stepG_value ho hw hk (hr w₁ h₁)]
  refine⟨⟨rfl,fun e hm=> ?_⟩,h w₁⟩
  have:=mem_listed hm
  rw[he w₁ h₁] at this
  simp only[List.mem_toArray,List.mem_cons,List.not_mem_nil,or_false] at this
  subst this
  exact evC_read _ hS hB
theorem sits_of {P:Program} {m:Bool} {K:World→Prop} {Still:Loc→Prop} {B:Nat} {s:Seat} {n:Nat} {g:Goroutine} (h:∀w,Goes P m (RK K) (DS Still B) (fun g _=> ∃g₂,AtIn P m K Still B s g g₂) n g w):Sits P m K Still B s (n+1) g:=.inl ⟨n,default,rfl,h default⟩
section
variable {P:Program} {m:Bool} {J:Nat→Goroutine→Prop} {n:Nat} {b:Frame} {a:Act} {k:List Item} {cs:List Frame}
theorem c_skip (hJ:Calmly P m J) (h:J n (G (b.at a k) cs)):J (n+1) (G (b.at a (.code .skip::k)) cs):=hJ.step rfl (fun _=>stepG_skip) h
theorem c_seq (hJ:Calmly P m J) {x y:Code} (h:J n (G (b.at a (.code x:: .code y::k)) cs)):J (n+1) (G (b.at a (.code (.seq x y)::k)) cs):=hJ.step rfl (fun _=>stepG_seq) h
theorem c_block (hJ:Calmly P m J) {id:Nat} {x:Code} (h:J n (G (b.at a (.code x:: .inBlock id::k)) cs)):J (n+1) (G (b.at a (.code (.block id x)::k)) cs):=hJ.step rfl (fun _=>stepG_block) h
theorem c_inBlock (hJ:Calmly P m J) {id:Nat} (h:J n (G (b.at a k) cs)):J (n+1) (G (b.at a (.inBlock id::k)) cs):=hJ.step rfl (fun _=>stepG_inBlock) h
theorem c_loop (hJ:Calmly P m J) {x:Code} (h:J n (G (b.at a (.code x:: .inLoop x::k)) cs)):J (n+1) (G (b.at a (.code (.loop x)::k)) cs):=hJ.step rfl (fun _=>stepG_loop) h
theorem c_inLoop (hJ:Calmly P m J) {x:Code} (h:J n (G (b.at a (.code x:: .inLoop x::k)) cs)):J (n+1) (G (b.at a (.inLoop x::k)) cs):=hJ.step rfl (fun _=>stepG_inLoop) h
theorem c_cond (hJ:Calmly P m J) {c:Operand} {x y:Code} (t:Bool) (ht:a.eval c=.bool t) (h:J n (G (b.at a (.code (if t then x else y)::k)) cs)):J (n+1) (G (b.at a (.code (.cond c x y)::k)) cs):=hJ.step rfl (fun _=>stepG_cond ht) h
theorem c_exit (hJ:Calmly P m J) {id:Nat} {k':List Item} (he:exitTo id k=some k') (h:J n (G (b.at a k') cs)):J (n+1) (G (b.at a (.code (.exit id)::k)) cs):=hJ.step rfl (fun _=>stepG_exit he) h
theorem c_region (hJ:Calmly P m J) {id:Nat} {ops:Array Oper} (l:List Nat) (hl:List.range ops.size=l) (h:J n (G (b.at a (.inRegion ops l::k)) cs)):J (n+1) (G (b.at a (.code (.region id ops false)::k)) cs):=hJ.step rfl (fun _=>by rw[stepG_region,hl]) h
theorem c_region_end (hJ:Calmly P m J) {ops:Array Oper} (h:J n (G (b.at a k) cs)):J (n+1) (G (b.at a (.inRegion ops []::k)) cs):=hJ.step rfl (fun _=>stepG_region_end) h
theorem c_unwanted (hJ:Calmly P m J) {ops:Array Oper} {i:Nat} {rest:List Nat} {o:Oper} (ho:ops[i]?=some o) (hw:Region.wanted o (yielded ops a.tmps)=false)
 (h:J n (G (b.at (a.put o.dst undef) (.inRegion ops rest::k)) cs)):J (n+1) (G (b.at a (.inRegion ops (i::rest)::k)) cs):=hJ.step rfl (fun _=>Go.Conc.stepG_unwanted ho hw) h
theorem c_ret (hJ:Calmly P m J) (h:J n (G {b.at a (.code .ret::k) with mode:=.returning} cs)):J (n+1) (G (b.at a (.code .ret::k)) cs):=hJ.step rfl (fun _=>stepG_ret) h
theorem c_end (hJ:Calmly P m J) (h:J n (G {b.at a [] with mode:=.returning} cs)):J (n+1) (G (b.at a []) cs):=hJ.step rfl (fun _=>stepG_end) h
theorem c_value (hJ:Calmly P m J) (x:Value) {ops:Array Oper} {i:Nat} {rest:List Nat} {o:Oper} (ho:ops[i]?=some o) (hw:Region.wanted o (yielded ops a.tmps)=true) (hk:b.kind≠.early)
 (hr:∀w,(execOp a.eval o).run P w=.ok (.value x) w) (he:∀w,(execOp a.eval o).events P w #[]=#[])
 (h:J n (G (b.at (a.put o.dst x) (.inRegion ops rest::k)) cs)):J (n+1) (G (b.at a (.inRegion ops (i::rest)::k)) cs):=
 hJ.step rfl (fun w=>by rw[stepG_value ho hw hk (hr w)];unfold listed;rw[he w,seen_none]) h
theorem c_defer (hJ:Calmly P m J) {ops:Array Oper} {i:Nat} {rest:List Nat} {o:Oper} {f:FuncId} {as0:Array Operand} {ats:Array TypeId} (ho:ops[i]?=some o) (hw:Region.wanted o (yielded ops a.tmps)=true) (hk:b.kind≠.early)
 (hop:o.op=.defer {callee:=.value (.func f),args:=as0,argTypes:=ats})
 (h:J n (G (b.at (Act.put ⟨a.tmps,dcall f (as0.map a.eval)::a.defers⟩ o.dst undef) (.inRegion ops rest::k)) cs)):J (n+1) (G (b.at a (.inRegion ops (i::rest)::k)) cs):=
 hJ.step rfl (fun _=>stepG_defer ho hw hk hop) h
theorem c_pure (hJ:Calmly P m J) (x:Value) {ops:Array Oper} {i:Nat} {rest:List Nat} {o:Oper} {f:FuncId} {fn:Func} {as0:Array Operand} {ats:Array TypeId} (ho:ops[i]?=some o) (hw:Region.wanted o (yielded ops a.tmps)=true) (hk:b.kind≠.early)
 (hop:o.op=.call {callee:=.value (.func f),args:=as0,argTypes:=ats}) (hf:P.funcs[f]?=some fn) (hname:(fn.name== "runtime.NumGoroutine")=false) (hb:fn.body.isNone=true) (hn:Extern.findNext fn=none) (he:Extern.find fn=some (fun _=>pure x))
 (h:J n (G (b.at (a.put o.dst x) (.inRegion ops rest::k)) cs)):J (n+1) (G (b.at a (.inRegion ops (i::rest)::k)) cs):=
 hJ.step rfl (fun _=>stepG_entry_pure x ho hw hk hop hf hname hb hn he) h
theorem c_call (hJ:Calmly P m J) {ops:Array Oper} {i:Nat} {rest:List Nat} {o:Oper} {f:FuncId} {fn:Func} {c:Code} {args:Array Operand} {ats:Array TypeId}
 (ho:ops[i]?=some o) (hw:Region.wanted o (yielded ops a.tmps)=true) (hk:b.kind≠.early) (hop:o.op=.call {callee:=.value (.func f),args,argTypes:=ats})
 (hf:P.funcs[f]?=some fn) (hname:(fn.name== "runtime.NumGoroutine")=false) (hb:fn.body=some c)
 (h:J n (G ((Go.Conc.base f).at {tmps:=args.map a.eval++Array.replicate (fn.ntmps-(args.map a.eval).size) undef,defers:=[]} [.code c]) (b.at a (.inRegion ops (i::rest)::k)::cs))):
 J (n+1) (G (b.at a (.inRegion ops (i::rest)::k)) cs):=hJ.step rfl (fun w=>by
 have hb':fn.body.isNone=false:=by rw[hb];rfl
 rw[stepG_enter ho hw hk (run_call_body hop hf hname hb'),enter_at _ hf hb]
 have:listed P b.fn a o w=#[]:=by unfold listed;rw[events_call_body hop hf hname hb'];exact seen_none P _
 rw[this]
 rfl) h
section
variable {b₀:Frame} {a₀:Act} {ops:Array Oper} {i:Nat} {rest:List Nat} {todo:List Item} {fn:Func} {ds:List Deferred} {f:FuncId} {args:Array Value}
theorem c_leave (hJ:Calmly P m J) {c:Frame} {x:Value} (hn:b.kind=.normal) (hd:a.defers=[]) (hf:P.funcs[b.fn]?=some fn) (hr:∀w,(results fn a.tmps).run P w=.ok x w) (he:∀w,(results fn a.tmps).events P w #[]=#[])
 (h:J n (G (c.finish x) cs)):J (n+1) (G {b.at a todo with mode:=.returning} (c::cs)):=hJ.step rfl (fun w=>stepG_leave hn hd hf (hr w) (he w)) h
theorem c_leave0 (hJ:Calmly P m J) (hn:b.kind=.normal) (hd:a.defers=[]) (hf:P.funcs[b.fn]?=some fn) (hr:fn.results=#[])
 (h:J n (G (b₀.at (a₀.put ((ops[i]?).bind (·.dst)) (.tuple #[])) (.inRegion ops rest::k)) cs)):J (n+1) (G {b.at a todo with mode:=.returning} (b₀.at a₀ (.inRegion ops (i::rest)::k)::cs)):=
 hJ.step rfl (fun w=>by rw[stepG_leave hn hd hf (results_none hr _ P w) (events_results_none hr _ _),Frame.finish_at]) h
theorem c_leave1 (hJ:Calmly P m J) {t:Tmp} (hn:b.kind=.normal) (hd:a.defers=[]) (hf:P.funcs[b.fn]?=some fn) (hr:fn.results=#[.tmp t])
 (h:J n (G (b₀.at (a₀.put ((ops[i]?).bind (·.dst)) (a.tmps.getD t undef)) (.inRegion ops rest::k)) cs)):J (n+1) (G {b.at a todo with mode:=.returning} (b₀.at a₀ (.inRegion ops (i::rest)::k)::cs)):=
 hJ.step rfl (fun w=>by rw[stepG_leave hn hd hf (results_tmp hr _ P w) (events_results_tmp hr _ _),Frame.finish_at]) h
theorem c_unwind (hJ:Calmly P m J) {c:Code} (hd:a.defers=dcall f args::ds) (hf:P.funcs[f]?=some fn) (hname:(fn.name== "runtime.NumGoroutine")=false) (hb:fn.body=some c)
 (h:J n (G ((baseD f).at {tmps:=args++Array.replicate (fn.ntmps-args.size) undef,defers:=[]} [.code c]) ({b.at ⟨a.tmps,ds⟩ todo with mode:=.returning}::cs))):J (n+1) (G {b.at a todo with mode:=.returning} cs):=
 hJ.step rfl (fun _=>stepG_unwind_enter hd hf hname hb) h
end
end
end Co
end Go.Proofs.Ytlngbdggehghgaa

namespace Go.Proofs.Ytlngbdggehghgaa
set_option linter.unusedSimpArgs false
set_option linter.unusedVariables false
namespace Co
open Go.Conc Go.RowKit
noncomputable def body62:Code:=Try.f62.body.getD .skip
theorem quits_mono {P:Program}:∀{n m d:Nat} {g:Goroutine},n≤m→QuitsD P n d g→QuitsD P m d g
 |0,0,_,_,_,h=>h
 |0,_+1,_,_,_,h=> .inl h
 |n+1,0,_,_,hl,_=>absurd hl (by omega)
 |n+1,m+1,_,_,hl,h=>h.imp id fun⟨h1,g',es,h2,h3,h4⟩=>⟨h1,g',es,h2,h3,quits_mono (by omega) h4⟩
theorem way_conv {s n d:Nat} {rel:Bool} {b:Frame} {a:Act} {k:List Item} {cs:List Frame} {ops:Array Oper} {i:Nat} {rest:List Nat} {o:Oper} {y:Operand} (ho:ops[i]?=some o) (hw:Region.wanted o (yielded ops a.tmps)=true) (hk:b.kind≠.early) (hop:o.op=.convert 116 120 y)
 (hy:a.eval y=.pointer (some (c5 s))) (h:Way Try.prog s n d rel (G (b.at (a.put o.dst (.pointer (some (c5 s)))) (.inRegion ops rest::k)) cs)):Way Try.prog s (n+1) d rel (G (b.at a (.inRegion ops (i::rest)::k)) cs):=by
 refine Way.calm rfl (fun w x hc=> ?_) h
 have hsz:(Try.prog.info? 60).map (fun i=>decide (i.size=0))=some false:=by kernel_rfl
 have hr:(execOp a.eval o).run Try.prog w=.ok (.value (.pointer (some (c5 s)))) w:=by
  have h1:=run_convert_to_unsafe (P:=Try.prog) (w:=w) Try.underlying116 Try.underlying120 hsz hc
  unfold execOp
  simp only[hop,hy]
  simp[h1]
 have he:(execOp a.eval o).events Try.prog w #[]=#[]:=by
  have h1:=events_convert_to_unsafe (P:=Try.prog) (w:=w) Try.underlying116 Try.underlying120 hsz hc #[]
  unfold execOp
  simp only[hop,hy]
  simp[go_sem,h1]
 rw[stepG_value ho hw hk hr]
 unfold listed
 rw[he,seen_none]
theorem wrapI (k:Nat) (hk:k<1000):IntKind.i32.wrap (k:Int)=(k:Int):=by
 simp[IntKind.wrap,IntKind.bits,IntKind.signed]
 omega
theorem mayWake_entry {P:Program} {b:Frame} {a:Act} {ops:Array Oper} {i:Nat} {rest:List Nat} {k:List Item} {cs:List Frame} {o:Oper} {f:FuncId} {fn:Func} {xs:Array Operand} {ats:Array TypeId}
 (ho:ops[i]?=some o) (hop:o.op=.call {callee:=.value (.func f),args:=xs,argTypes:=ats}) (hf:P.funcs[f]?=some fn) (hb:fn.body.isNone=true):mayWake P (G (b.at a (.inRegion ops (i::rest)::k)) cs)=true:=by
 have h2:fn.body=none:=by simpa using hb
 have ef:(b.at a (.inRegion ops (i::rest)::k)).eval (.func f)=.func (.func f) #[] #[]:=rfl
 simp[mayWake,G,Frame.at,ho,hop] at ef⊢
 simp[ef,hf,h2]
theorem wrapU (n:Int):IntKind.u64.wrap n=n%18446744073709551616:=by simp[IntKind.wrap,IntKind.bits,IntKind.signed]
theorem wrap_less (k b:Nat) (hb:b≤1) (hk:k<1000):IntKind.u64.wrap ((((k+1:Nat):Int)*KK+(b:Int))+18446744069414584320)=(k:Int)*KK+(b:Int):=by
 simp only[wrapU,KK]
 omega
theorem bits_x (k:Nat) (hk:k<1000):∀b:Nat,b≤1→bits .and .u64 ((k:Int)*KK+(b:Int)) 2147483648=0∧bits .and .u64 ((k:Int)*KK+(b:Int)) 2147483647=(b:Int):=by
 have h:∀k:Fin 1000,∀b:Fin 2,bits .and .u64 ((k.val:Int)*KK+(b.val:Int)) 2147483648=0∧bits .and .u64 ((k.val:Int)*KK+(b.val:Int)) 2147483647=(b.val:Int):=by decide+kernel
 intro b hb
 exact h ⟨k,hk⟩ ⟨b,by omega⟩
theorem facts_x (k b:Nat) (hb:b≤1) (hk:k<1000) {x:Int} (hx:(k:Int)*KK+(b:Int)=x):bits .and .u64 x 2147483648=0∧bits .and .u64 x 2147483647=(b:Int)∧x/4294967296=(k:Int):=by
 subst hx
 obtain⟨h1,h2⟩:=bits_x k hk b hb
 refine⟨h1,h2, ?_⟩
 simp only[KK]
 omega
set_option maxRecDepth 100000 in
set_option maxHeartbeats 4000000 in
theorem add_neg {s qt:Nat} {b₀:Frame} {a₀:Act} {ops₀:Array Oper} {i₀:Nat} {rest₀:List Nat} {k₀:List Item} {cs:List Frame}
 (hT:QuitsD Try.prog qt 0 (G (b₀.at (a₀.put ((ops₀[i₀]?).bind (·.dst)) (.tuple #[])) (.inRegion ops₀ rest₀::k₀)) cs)):
 Way Try.prog s (qt+250) 0 false (G ((Go.Conc.base 62).at ⟨#[.pointer (some ⟨s,5,none⟩),.int .i64 (-1),undef,undef,undef,undef,undef,undef,undef,undef,undef,undef,undef,undef,undef,undef,undef,undef,undef,undef,undef,undef,undef,undef,undef,undef,undef,undef,undef,undef,undef,undef,undef,undef,undef,undef,undef,undef,undef,undef,undef,undef,undef,undef,undef,undef,undef,undef,undef,undef,undef,undef,undef,undef,undef,undef,undef,undef,undef,undef,undef,undef,undef,undef,undef,undef,undef,undef,undef,undef,undef,undef,undef,undef,undef,undef,undef,undef,undef,undef,undef,undef,undef,undef,undef,undef,undef,undef,undef,undef,undef,undef,undef,undef,undef,undef,undef,undef,undef,undef,undef,undef,undef,undef,undef,undef,undef,undef,undef,undef,undef,undef,undef,undef,undef,undef,undef],[]⟩ [.code body62]) (b₀.at a₀ (.inRegion ops₀ (i₀::rest₀)::k₀)::cs)):=by
 simp only[body62,Try.f62,Option.getD_some]
 refine c_seq Way.calmly ?_
 refine c_cond Way.calmly true (by first|rfl|(simp[Act.eval, *])) ?_
 simp only[↓reduceIte]
 refine c_seq Way.calmly ?_
 refine c_seq Way.calmly ?_
 refine c_region Way.calmly [0,1] rfl ?_
 refine c_value Way.calmly (.int .i64 (-1)) rfl rfl (by decide) (fun _=>by go_simp;try (first|decide|assumption|(simp only[*];done)|simp[*])) (fun _=>by simp[go_sem, *]) ?_
 walk_nrm
 refine c_value Way.calmly (.bool true) rfl rfl (by decide) (fun _=>by go_simp;try (first|decide|assumption|(simp only[*];done)|simp[*])) (fun _=>by simp[go_sem, *]) ?_
 walk_nrm
 refine c_region_end Way.calmly ?_
 refine c_cond Way.calmly true (by first|rfl|(simp[Act.eval, *])) ?_
 simp only[↓reduceIte]
 refine c_region Way.calmly [0,1,2] rfl ?_
 refine c_value Way.calmly (.pointer (some ⟨s,5,none⟩)) rfl rfl (by decide) (fun _=>by go_simp;try (first|decide|assumption|(simp only[*];done)|simp[*])) (fun _=>by simp[go_sem, *]) ?_
 walk_nrm
 refine way_conv rfl rfl (by decide) rfl rfl ?_
 walk_nrm
 refine Way.rel rfl (fun _=>stepG_markAt .releaseMerge (by simp) rfl rfl (by decide) rfl Try.func72 (by kernel_rfl) (by kernel_rfl) (by kernel_rfl) (by kernel_rfl) (by simp[Act.eval,c5])) ?_
 walk_nrm
 refine c_region_end Way.calmly ?_
 refine c_seq Way.calmly ?_
 refine c_region Way.calmly [0] rfl ?_
 refine Way.deaf rfl (fun _=>stepG_mark0 .disable (by simp) rfl rfl (by decide) rfl Try.func51 (by kernel_rfl) (by kernel_rfl) (by kernel_rfl) (by kernel_rfl)) ?_
 walk_nrm
 refine c_region_end Way.calmly ?_
 refine c_region Way.calmly [0] rfl ?_
 refine c_defer Way.calmly rfl rfl (by decide) rfl ?_
 walk_nrm
 refine c_region_end Way.calmly ?_
 refine c_seq Way.calmly ?_
 refine c_region Way.calmly [0] rfl ?_
 refine c_value Way.calmly (.bool false) rfl rfl (by decide) (fun _=>by go_simp;try (first|decide|assumption|(simp only[*];done)|simp[*])) (fun _=>by simp[go_sem, *]) ?_
 walk_nrm
 refine c_region_end Way.calmly ?_
 refine c_seq Way.calmly ?_
 refine c_seq Way.calmly ?_
 refine c_region Way.calmly [0] rfl ?_
 refine c_pure Way.calmly (.bool false) rfl rfl (by decide) rfl Try.func59 (by kernel_rfl) (by kernel_rfl) (by kernel_rfl) (by kernel_rfl) ?_
 walk_nrm
 refine c_region_end Way.calmly ?_
 refine c_cond Way.calmly false (by first|rfl|(simp[Act.eval, *])) ?_
 simp only[Bool.false_eq_true,↓reduceIte]
 refine c_skip Way.calmly ?_
 refine c_seq Way.calmly ?_
 refine c_region Way.calmly [0,1,2,3,4,5,6,7] rfl ?_
 refine c_value Way.calmly (.pointer (some ⟨s,5,none⟩)) rfl rfl (by decide) (fun _=>by go_simp;try (first|decide|assumption|(simp only[*];done)|simp[*])) (fun _=>by simp[go_sem, *]) ?_
 walk_nrm
 refine c_value Way.calmly (.pointer (some ⟨s,5,none⟩)) rfl rfl (by decide) (fun _=>by go_simp;try (first|decide|assumption|(simp only[*];done)|simp[*])) (fun _=>by simp[go_sem, *]) ?_
 walk_nrm
 refine c_value Way.calmly (.pointer (some ⟨s,5,none⟩)) rfl rfl (by decide) (fun _=>by go_simp;try (first|decide|assumption|(simp only[*];done)|simp[*])) (fun _=>by simp[go_sem, *]) ?_
 walk_nrm
 refine c_value Way.calmly (.int .i64 (-1)) rfl rfl (by decide) (fun _=>by go_simp;try (first|decide|assumption|(simp only[*];done)|simp[*])) (fun _=>by simp[go_sem, *]) ?_
 walk_nrm
 refine c_value Way.calmly (.int .u64 18446744073709551615) rfl rfl (by decide) (fun _=>by go_simp;try (first|decide|assumption|(simp only[*];done)|simp[*])) (fun _=>by simp[go_sem, *]) ?_
 walk_nrm
 refine c_value Way.calmly (.int .u64 18446744069414584320) rfl rfl (by decide) (fun _=>by go_simp;try (first|decide|assumption|(simp only[*];done)|simp[*])) (fun _=>by simp[go_sem, *]) ?_
 walk_nrm
 refine c_call Way.calmly rfl rfl (by decide) rfl Try.func76 (by kernel_rfl) rfl ?_
 simp only[Try.f76]
 walk_nrm
 refine c_seq Way.calmly ?_
 refine c_region Way.calmly [0] rfl ?_
 refine c_value Way.calmly (.int .u64 0) rfl rfl (by decide) (fun _=>by go_simp;try (first|decide|assumption|(simp only[*];done)|simp[*])) (fun _=>by simp[go_sem, *]) ?_
 walk_nrm
 refine c_region_end Way.calmly ?_
 refine c_seq Way.calmly ?_
 refine c_region Way.calmly [0,1,2,3,4,5] rfl ?_
 refine c_value Way.calmly (.pointer (some ⟨s,5,none⟩)) rfl rfl (by decide) (fun _=>by go_simp;try (first|decide|assumption|(simp only[*];done)|simp[*])) (fun _=>by simp[go_sem, *]) ?_
 walk_nrm
 refine c_value Way.calmly (.pointer (some ⟨s,5,none⟩)) rfl rfl (by decide) (fun _=>by go_simp;try (first|decide|assumption|(simp only[*];done)|simp[*])) (fun _=>by simp[go_sem, *]) ?_
 walk_nrm
 refine c_value Way.calmly (.pointer (some ⟨s,5,none⟩)) rfl rfl (by decide) (fun _=>by go_simp;try (first|decide|assumption|(simp only[*];done)|simp[*])) (fun _=>by simp[go_sem, *]) ?_
 walk_nrm
 refine c_value Way.calmly (.int .u64 18446744069414584320) rfl rfl (by decide) (fun _=>by go_simp;try (first|decide|assumption|(simp only[*];done)|simp[*])) (fun _=>by simp[go_sem, *]) ?_
 walk_nrm
 refine Way.add rfl (fun w k b hb hk hz hc=> ?_)
 have e:IntKind.u64.wrap ((((k+1:Nat):Int)*KK+(b:Int))+18446744069414584320)=(k:Int)*KK+(b:Int):=wrap_less k b hb hk
 generalize hx:(k:Int)*KK+(b:Int)=x at e⊢
 obtain⟨hA,hB,hC⟩:=facts_x k b hb hk hx
 have hW:=wrapI k hk
 refine⟨_,_, ?_,(stepG_add_atomic rfl rfl (by decide) rfl Try.func84 (by kernel_rfl) (by kernel_rfl) (by kernel_rfl) .u64 (by kernel_rfl) rfl rfl hc hz).trans (by rw[e]),fun hq=> ?_,fun ht=> ?_⟩
 ·intro e he;simp only[List.mem_toArray,List.mem_cons,List.not_mem_nil,or_false] at he;rcases he with rfl|rfl<;>exact⟨5,_,.inl rfl,rfl⟩
 ·walk_nrm
  rcases Nat.eq_zero_or_pos k with hk0|hk0
  ·subst hk0
   have hb0:b=0:=by omega
   subst hb0
   refine c_value quits_calmly (.int .u64 x) rfl rfl (by decide) (fun _=>by go_simp;try (first|decide|assumption|(simp only[*];done)|simp[*])) (fun _=>by simp[go_sem, *]) ?_
   walk_nrm
   refine c_region_end quits_calmly ?_
   refine c_ret (J:=fun n g=>QuitsD Try.prog n 1 g) quits_calmly ?_
   refine c_leave1 (J:=fun n g=>QuitsD Try.prog n 1 g) quits_calmly rfl rfl Try.func76 rfl ?_
   walk_nrm
   refine c_value quits_calmly (.int .u64 x) rfl rfl (by decide) (fun _=>by go_simp;try (first|decide|assumption|(simp only[*];done)|simp[*])) (fun _=>by simp[go_sem, *]) ?_
   walk_nrm
   refine c_region_end quits_calmly ?_
   refine c_seq (J:=fun n g=>QuitsD Try.prog n 1 g) quits_calmly ?_
   refine c_seq (J:=fun n g=>QuitsD Try.prog n 1 g) quits_calmly ?_
   refine c_region quits_calmly [0,1,2,3,4,5,6] rfl ?_
   refine c_value quits_calmly (.int .u64 x) rfl rfl (by decide) (fun _=>by go_simp;try (first|decide|assumption|(simp only[*];done)|simp[*])) (fun _=>by simp[go_sem, *]) ?_
   walk_nrm
   refine c_value quits_calmly (.int .u64 0) rfl rfl (by decide) (fun _=>by go_simp;try (first|decide|assumption|(simp only[*];done)|simp[*])) (fun _=>by simp[go_sem, *]) ?_
   walk_nrm
   refine c_value quits_calmly (.bool false) rfl rfl (by decide) (fun _=>by go_simp;try (first|decide|assumption|(simp only[*];done)|simp[*])) (fun _=>by simp[go_sem, *]) ?_
   walk_nrm
   refine c_value quits_calmly (.bool false) rfl rfl (by decide) (fun _=>by go_simp;try (first|decide|assumption|(simp only[*];done)|simp[*])) (fun _=>by simp[go_sem, *]) ?_
   walk_nrm
   refine c_unwanted quits_calmly rfl rfl ?_
   walk_nrm
   refine c_unwanted quits_calmly rfl rfl ?_
   walk_nrm
   refine c_value quits_calmly (.bool false) rfl rfl (by decide) (fun _=>by go_simp;try (first|decide|assumption|(simp only[*];done)|simp[*])) (fun _=>by simp[go_sem, *]) ?_
   walk_nrm
   refine c_region_end quits_calmly ?_
   refine c_cond quits_calmly false (by first|rfl|(simp[Act.eval, *])) ?_
   simp only[Bool.false_eq_true,↓reduceIte]
   refine c_skip (J:=fun n g=>QuitsD Try.prog n 1 g) quits_calmly ?_
   refine c_seq (J:=fun n g=>QuitsD Try.prog n 1 g) quits_calmly ?_
   refine c_region quits_calmly [0,1,2,3] rfl ?_
   refine c_value quits_calmly (.int .u64 x) rfl rfl (by decide) (fun _=>by go_simp;try (first|decide|assumption|(simp only[*];done)|simp[*])) (fun _=>by simp[go_sem, *]) ?_
   walk_nrm
   refine c_value quits_calmly (.int .u64 0) rfl rfl (by decide) (fun _=>by go_simp;try (first|decide|assumption|(simp only[*];done)|simp[*])) (fun _=>by simp[go_sem, *]) ?_
   walk_nrm
   refine c_value quits_calmly (.int .i32 0) rfl rfl (by decide) (fun _=>by go_simp;try (first|decide|assumption|(simp only[*];done)|simp[*])) (fun _=>by simp[go_sem, *]) ?_
   walk_nrm
   refine c_value quits_calmly (.int .i32 0) rfl rfl (by decide) (fun _=>by go_simp;try (first|decide|assumption|(simp only[*];done)|simp[*])) (fun _=>by simp[go_sem, *]) ?_
   walk_nrm
   refine c_region_end quits_calmly ?_
   refine c_seq (J:=fun n g=>QuitsD Try.prog n 1 g) quits_calmly ?_
   refine c_region quits_calmly [0,1,2,3] rfl ?_
   refine c_value quits_calmly (.int .u64 x) rfl rfl (by decide) (fun _=>by go_simp;try (first|decide|assumption|(simp only[*];done)|simp[*])) (fun _=>by simp[go_sem, *]) ?_
   walk_nrm
   refine c_value quits_calmly (.int .u64 0) rfl rfl (by decide) (fun _=>by go_simp;try (first|decide|assumption|(simp only[*];done)|simp[*])) (fun _=>by simp[go_sem, *]) ?_
   walk_nrm
   refine c_value quits_calmly (.int .u32 0) rfl rfl (by decide) (fun _=>by go_simp;try (first|decide|assumption|(simp only[*];done)|simp[*])) (fun _=>by simp[go_sem, *]) ?_
   walk_nrm
   refine c_value quits_calmly (.int .u32 0) rfl rfl (by decide) (fun _=>by go_simp;try (first|decide|assumption|(simp only[*];done)|simp[*])) (fun _=>by simp[go_sem, *]) ?_
   walk_nrm
   refine c_region_end quits_calmly ?_
   refine c_seq (J:=fun n g=>QuitsD Try.prog n 1 g) quits_calmly ?_
   refine c_seq (J:=fun n g=>QuitsD Try.prog n 1 g) quits_calmly ?_
   refine c_region quits_calmly [0,1,2,3,4,5,6,7,8,9] rfl ?_
   refine c_value quits_calmly (.bool true) rfl rfl (by decide) (fun _=>by go_simp;try (first|decide|assumption|(simp only[*];done)|simp[*])) (fun _=>by simp[go_sem, *]) ?_
   walk_nrm
   refine c_value quits_calmly (.int .i64 (-1)) rfl rfl (by decide) (fun _=>by go_simp;try (first|decide|assumption|(simp only[*];done)|simp[*])) (fun _=>by simp[go_sem, *]) ?_
   walk_nrm
   refine c_value quits_calmly (.bool false) rfl rfl (by decide) (fun _=>by go_simp;try (first|decide|assumption|(simp only[*];done)|simp[*])) (fun _=>by simp[go_sem, *]) ?_
   walk_nrm
   refine c_value quits_calmly (.bool false) rfl rfl (by decide) (fun _=>by go_simp;try (first|decide|assumption|(simp only[*];done)|simp[*])) (fun _=>by simp[go_sem, *]) ?_
   walk_nrm
   refine c_value quits_calmly (.bool false) rfl rfl (by decide) (fun _=>by go_simp;try (first|decide|assumption|(simp only[*];done)|simp[*])) (fun _=>by simp[go_sem, *]) ?_
   walk_nrm
   refine c_unwanted quits_calmly rfl rfl ?_
   walk_nrm
   refine c_unwanted quits_calmly rfl rfl ?_
   walk_nrm
   refine c_unwanted quits_calmly rfl rfl ?_
   walk_nrm
   refine c_unwanted quits_calmly rfl rfl ?_
   walk_nrm
   refine c_value quits_calmly (.bool false) rfl rfl (by decide) (fun _=>by go_simp;try (first|decide|assumption|(simp only[*];done)|simp[*])) (fun _=>by simp[go_sem, *]) ?_
   walk_nrm
   refine c_region_end quits_calmly ?_
   refine c_cond quits_calmly false (by first|rfl|(simp[Act.eval, *])) ?_
   simp only[Bool.false_eq_true,↓reduceIte]
   refine c_skip (J:=fun n g=>QuitsD Try.prog n 1 g) quits_calmly ?_
   refine c_seq (J:=fun n g=>QuitsD Try.prog n 1 g) quits_calmly ?_
   refine c_seq (J:=fun n g=>QuitsD Try.prog n 1 g) quits_calmly ?_
   refine c_region quits_calmly [0,1] rfl ?_
   refine c_value quits_calmly (.int .i32 0) rfl rfl (by decide) (fun _=>by go_simp;try (first|decide|assumption|(simp only[*];done)|simp[*])) (fun _=>by simp[go_sem, *]) ?_
   walk_nrm
   refine c_value quits_calmly (.bool false) rfl rfl (by decide) (fun _=>by go_simp;try (first|decide|assumption|(simp only[*];done)|simp[*])) (fun _=>by simp[go_sem, *]) ?_
   walk_nrm
   refine c_region_end quits_calmly ?_
   refine c_cond quits_calmly false (by first|rfl|(simp[Act.eval, *])) ?_
   simp only[Bool.false_eq_true,↓reduceIte]
   refine c_skip (J:=fun n g=>QuitsD Try.prog n 1 g) quits_calmly ?_
   refine c_seq (J:=fun n g=>QuitsD Try.prog n 1 g) quits_calmly ?_
   refine c_seq (J:=fun n g=>QuitsD Try.prog n 1 g) quits_calmly ?_
   refine c_region quits_calmly [0,1,2,3,4,5,6,7,8,9,10,11] rfl ?_
   refine c_value quits_calmly (.int .u32 0) rfl rfl (by decide) (fun _=>by go_simp;try (first|decide|assumption|(simp only[*];done)|simp[*])) (fun _=>by simp[go_sem, *]) ?_
   walk_nrm
   refine c_value quits_calmly (.bool false) rfl rfl (by decide) (fun _=>by go_simp;try (first|decide|assumption|(simp only[*];done)|simp[*])) (fun _=>by simp[go_sem, *]) ?_
   walk_nrm
   refine c_value quits_calmly (.bool false) rfl rfl (by decide) (fun _=>by go_simp;try (first|decide|assumption|(simp only[*];done)|simp[*])) (fun _=>by simp[go_sem, *]) ?_
   walk_nrm
   refine c_unwanted quits_calmly rfl rfl ?_
   walk_nrm
   refine c_unwanted quits_calmly rfl rfl ?_
   walk_nrm
   refine c_value quits_calmly (.bool false) rfl rfl (by decide) (fun _=>by go_simp;try (first|decide|assumption|(simp only[*];done)|simp[*])) (fun _=>by simp[go_sem, *]) ?_
   walk_nrm
   refine c_value quits_calmly (.bool false) rfl rfl (by decide) (fun _=>by go_simp;try (first|decide|assumption|(simp only[*];done)|simp[*])) (fun _=>by simp[go_sem, *]) ?_
   walk_nrm
   refine c_unwanted quits_calmly rfl rfl ?_
   walk_nrm
   refine c_unwanted quits_calmly rfl rfl ?_
   walk_nrm
   refine c_unwanted quits_calmly rfl rfl ?_
   walk_nrm
   refine c_unwanted quits_calmly rfl rfl ?_
   walk_nrm
   refine c_value quits_calmly (.bool false) rfl rfl (by decide) (fun _=>by go_simp;try (first|decide|assumption|(simp only[*];done)|simp[*])) (fun _=>by simp[go_sem, *]) ?_
   walk_nrm
   refine c_region_end quits_calmly ?_
   refine c_cond quits_calmly false (by first|rfl|(simp[Act.eval, *])) ?_
   simp only[Bool.false_eq_true,↓reduceIte]
   refine c_skip (J:=fun n g=>QuitsD Try.prog n 1 g) quits_calmly ?_
   refine c_seq (J:=fun n g=>QuitsD Try.prog n 1 g) quits_calmly ?_
   refine c_seq (J:=fun n g=>QuitsD Try.prog n 1 g) quits_calmly ?_
   refine c_region quits_calmly [0,1,2,3,4,5] rfl ?_
   refine c_value quits_calmly (.int .i32 0) rfl rfl (by decide) (fun _=>by go_simp;try (first|decide|assumption|(simp only[*];done)|simp[*])) (fun _=>by simp[go_sem, *]) ?_
   walk_nrm
   refine c_value quits_calmly (.bool false) rfl rfl (by decide) (fun _=>by go_simp;try (first|decide|assumption|(simp only[*];done)|simp[*])) (fun _=>by simp[go_sem, *]) ?_
   walk_nrm
   refine c_value quits_calmly (.bool false) rfl rfl (by decide) (fun _=>by go_simp;try (first|decide|assumption|(simp only[*];done)|simp[*])) (fun _=>by simp[go_sem, *]) ?_
   walk_nrm
   refine c_value quits_calmly (.int .u32 0) rfl rfl (by decide) (fun _=>by go_simp;try (first|decide|assumption|(simp only[*];done)|simp[*])) (fun _=>by simp[go_sem, *]) ?_
   walk_nrm
   refine c_value quits_calmly (.bool true) rfl rfl (by decide) (fun _=>by go_simp;try (first|decide|assumption|(simp only[*];done)|simp[*])) (fun _=>by simp[go_sem, *]) ?_
   walk_nrm
   refine c_value quits_calmly (.bool true) rfl rfl (by decide) (fun _=>by go_simp;try (first|decide|assumption|(simp only[*];done)|simp[*])) (fun _=>by simp[go_sem, *]) ?_
   walk_nrm
   refine c_region_end quits_calmly ?_
   refine c_cond quits_calmly true (by first|rfl|(simp[Act.eval, *])) ?_
   simp only[↓reduceIte]
   refine c_ret (J:=fun n g=>QuitsD Try.prog n 1 g) quits_calmly ?_
   refine QuitsD.unwind_mark .enable rfl (by simp) rfl Try.func53 (by kernel_rfl) (by kernel_rfl) (by kernel_rfl) (by kernel_rfl) ?_
   refine quits_mono (n:=qt+1) (by omega) (QuitsD.leave0 rfl rfl Try.func62 rfl ?_)
   exact hT
  ·rcases(show b=0∨b=1 by omega) with hb0|hb0
   ·subst hb0
    refine c_value quits_calmly (.int .u64 x) rfl rfl (by decide) (fun _=>by go_simp;try (first|decide|assumption|(simp only[*];done)|simp[*])) (fun _=>by simp[go_sem, *]) ?_
    walk_nrm
    refine c_region_end quits_calmly ?_
    refine c_ret (J:=fun n g=>QuitsD Try.prog n 1 g) quits_calmly ?_
    refine c_leave1 (J:=fun n g=>QuitsD Try.prog n 1 g) quits_calmly rfl rfl Try.func76 rfl ?_
    walk_nrm
    refine c_value quits_calmly (.int .u64 x) rfl rfl (by decide) (fun _=>by go_simp;try (first|decide|assumption|(simp only[*];done)|simp[*])) (fun _=>by simp[go_sem, *]) ?_
    walk_nrm
    refine c_region_end quits_calmly ?_
    refine c_seq (J:=fun n g=>QuitsD Try.prog n 1 g) quits_calmly ?_
    refine c_seq (J:=fun n g=>QuitsD Try.prog n 1 g) quits_calmly ?_
    refine c_region quits_calmly [0,1,2,3,4,5,6] rfl ?_
    refine c_value quits_calmly (.int .u64 x) rfl rfl (by decide) (fun _=>by go_simp;try (first|decide|assumption|(simp only[*];done)|simp[*])) (fun _=>by simp[go_sem, *]) ?_
    walk_nrm
    refine c_value quits_calmly (.int .u64 0) rfl rfl (by decide) (fun _=>by go_simp;try (first|decide|assumption|(simp only[*];done)|simp[*])) (fun _=>by simp[go_sem, *]) ?_
    walk_nrm
    refine c_value quits_calmly (.bool false) rfl rfl (by decide) (fun _=>by go_simp;try (first|decide|assumption|(simp only[*];done)|simp[*])) (fun _=>by simp[go_sem, *]) ?_
    walk_nrm
    refine c_value quits_calmly (.bool false) rfl rfl (by decide) (fun _=>by go_simp;try (first|decide|assumption|(simp only[*];done)|simp[*])) (fun _=>by simp[go_sem, *]) ?_
    walk_nrm
    refine c_unwanted quits_calmly rfl rfl ?_
    walk_nrm
    refine c_unwanted quits_calmly rfl rfl ?_
    walk_nrm
    refine c_value quits_calmly (.bool false) rfl rfl (by decide) (fun _=>by go_simp;try (first|decide|assumption|(simp only[*];done)|simp[*])) (fun _=>by simp[go_sem, *]) ?_
    walk_nrm
    refine c_region_end quits_calmly ?_
    refine c_cond quits_calmly false (by first|rfl|(simp[Act.eval, *])) ?_
    simp only[Bool.false_eq_true,↓reduceIte]
    refine c_skip (J:=fun n g=>QuitsD Try.prog n 1 g) quits_calmly ?_
    refine c_seq (J:=fun n g=>QuitsD Try.prog n 1 g) quits_calmly ?_
    refine c_region quits_calmly [0,1,2,3] rfl ?_
    refine c_value quits_calmly (.int .u64 x) rfl rfl (by decide) (fun _=>by go_simp;try (first|decide|assumption|(simp only[*];done)|simp[*])) (fun _=>by simp[go_sem, *]) ?_
    walk_nrm
    refine c_value quits_calmly (.int .u64 (k:Int)) rfl rfl (by decide) (fun _=>by go_simp;try (first|decide|assumption|(simp only[*];done)|simp[*])) (fun _=>by simp[go_sem, *]) ?_
    walk_nrm
    refine c_value quits_calmly (.int .i32 (k:Int)) rfl rfl (by decide) (fun _=>by go_simp;try (first|decide|assumption|(simp only[*];done)|simp[*])) (fun _=>by simp[go_sem, *]) ?_
    walk_nrm
    refine c_value quits_calmly (.int .i32 (k:Int)) rfl rfl (by decide) (fun _=>by go_simp;try (first|decide|assumption|(simp only[*];done)|simp[*])) (fun _=>by simp[go_sem, *]) ?_
    walk_nrm
    refine c_region_end quits_calmly ?_
    refine c_seq (J:=fun n g=>QuitsD Try.prog n 1 g) quits_calmly ?_
    refine c_region quits_calmly [0,1,2,3] rfl ?_
    refine c_value quits_calmly (.int .u64 x) rfl rfl (by decide) (fun _=>by go_simp;try (first|decide|assumption|(simp only[*];done)|simp[*])) (fun _=>by simp[go_sem, *]) ?_
    walk_nrm
    refine c_value quits_calmly (.int .u64 0) rfl rfl (by decide) (fun _=>by go_simp;try (first|decide|assumption|(simp only[*];done)|simp[*])) (fun _=>by simp[go_sem, *]) ?_
    walk_nrm
    refine c_value quits_calmly (.int .u32 0) rfl rfl (by decide) (fun _=>by go_simp;try (first|decide|assumption|(simp only[*];done)|simp[*])) (fun _=>by simp[go_sem, *]) ?_
    walk_nrm
    refine c_value quits_calmly (.int .u32 0) rfl rfl (by decide) (fun _=>by go_simp;try (first|decide|assumption|(simp only[*];done)|simp[*])) (fun _=>by simp[go_sem, *]) ?_
    walk_nrm
    refine c_region_end quits_calmly ?_
    refine c_seq (J:=fun n g=>QuitsD Try.prog n 1 g) quits_calmly ?_
    refine c_seq (J:=fun n g=>QuitsD Try.prog n 1 g) quits_calmly ?_
    refine c_region quits_calmly [0,1,2,3,4,5,6,7,8,9] rfl ?_
    refine c_value quits_calmly (.bool true) rfl rfl (by decide) (fun _=>by go_simp;try (first|decide|assumption|(simp only[*];done)|simp[*])) (fun _=>by simp[go_sem, *]) ?_
    walk_nrm
    refine c_value quits_calmly (.int .i64 (-1)) rfl rfl (by decide) (fun _=>by go_simp;try (first|decide|assumption|(simp only[*];done)|simp[*])) (fun _=>by simp[go_sem, *]) ?_
    walk_nrm
    refine c_value quits_calmly (.bool false) rfl rfl (by decide) (fun _=>by go_simp;try (first|decide|assumption|(simp only[*];done)|simp[*])) (fun _=>by simp[go_sem, *]) ?_
    walk_nrm
    refine c_value quits_calmly (.bool false) rfl rfl (by decide) (fun _=>by go_simp;try (first|decide|assumption|(simp only[*];done)|simp[*])) (fun _=>by simp[go_sem, *]) ?_
    walk_nrm
    refine c_value quits_calmly (.bool false) rfl rfl (by decide) (fun _=>by go_simp;try (first|decide|assumption|(simp only[*];done)|simp[*])) (fun _=>by simp[go_sem, *]) ?_
    walk_nrm
    refine c_unwanted quits_calmly rfl rfl ?_
    walk_nrm
    refine c_unwanted quits_calmly rfl rfl ?_
    walk_nrm
    refine c_unwanted quits_calmly rfl rfl ?_
    walk_nrm
    refine c_unwanted quits_calmly rfl rfl ?_
    walk_nrm
    refine c_value quits_calmly (.bool false) rfl rfl (by decide) (fun _=>by go_simp;try (first|decide|assumption|(simp only[*];done)|simp[*])) (fun _=>by simp[go_sem, *]) ?_
    walk_nrm
    refine c_region_end quits_calmly ?_
    refine c_cond quits_calmly false (by first|rfl|(simp[Act.eval, *])) ?_
    simp only[Bool.false_eq_true,↓reduceIte]
    refine c_skip (J:=fun n g=>QuitsD Try.prog n 1 g) quits_calmly ?_
    refine c_seq (J:=fun n g=>QuitsD Try.prog n 1 g) quits_calmly ?_
    refine c_seq (J:=fun n g=>QuitsD Try.prog n 1 g) quits_calmly ?_
    refine c_region quits_calmly [0,1] rfl ?_
    refine c_value quits_calmly (.int .i32 (k:Int)) rfl rfl (by decide) (fun _=>by go_simp;try (first|decide|assumption|(simp only[*];done)|simp[*])) (fun _=>by simp[go_sem, *]) ?_
    walk_nrm
    refine c_value quits_calmly (.bool false) rfl rfl (by decide) (fun _=>by go_simp;try (first|decide|assumption|(simp only[*];done)|simp[*])) (fun _=>by simp[go_sem, *]) ?_
    walk_nrm
    refine c_region_end quits_calmly ?_
    refine c_cond quits_calmly false (by first|rfl|(simp[Act.eval, *])) ?_
    simp only[Bool.false_eq_true,↓reduceIte]
    refine c_skip (J:=fun n g=>QuitsD Try.prog n 1 g) quits_calmly ?_
    refine c_seq (J:=fun n g=>QuitsD Try.prog n 1 g) quits_calmly ?_
    refine c_seq (J:=fun n g=>QuitsD Try.prog n 1 g) quits_calmly ?_
    refine c_region quits_calmly [0,1,2,3,4,5,6,7,8,9,10,11] rfl ?_
    refine c_value quits_calmly (.int .u32 0) rfl rfl (by decide) (fun _=>by go_simp;try (first|decide|assumption|(simp only[*];done)|simp[*])) (fun _=>by simp[go_sem, *]) ?_
    walk_nrm
    refine c_value quits_calmly (.bool false) rfl rfl (by decide) (fun _=>by go_simp;try (first|decide|assumption|(simp only[*];done)|simp[*])) (fun _=>by simp[go_sem, *]) ?_
    walk_nrm
    refine c_value quits_calmly (.bool false) rfl rfl (by decide) (fun _=>by go_simp;try (first|decide|assumption|(simp only[*];done)|simp[*])) (fun _=>by simp[go_sem, *]) ?_
    walk_nrm
    refine c_unwanted quits_calmly rfl rfl ?_
    walk_nrm
    refine c_unwanted quits_calmly rfl rfl ?_
    walk_nrm
    refine c_value quits_calmly (.bool false) rfl rfl (by decide) (fun _=>by go_simp;try (first|decide|assumption|(simp only[*];done)|simp[*])) (fun _=>by simp[go_sem, *]) ?_
    walk_nrm
    refine c_value quits_calmly (.bool false) rfl rfl (by decide) (fun _=>by go_simp;try (first|decide|assumption|(simp only[*];done)|simp[*])) (fun _=>by simp[go_sem, *]) ?_
    walk_nrm
    refine c_unwanted quits_calmly rfl rfl ?_
    walk_nrm
    refine c_unwanted quits_calmly rfl rfl ?_
    walk_nrm
    refine c_unwanted quits_calmly rfl rfl ?_
    walk_nrm
    refine c_unwanted quits_calmly rfl rfl ?_
    walk_nrm
    refine c_value quits_calmly (.bool false) rfl rfl (by decide) (fun _=>by go_simp;try (first|decide|assumption|(simp only[*];done)|simp[*])) (fun _=>by simp[go_sem, *]) ?_
    walk_nrm
    refine c_region_end quits_calmly ?_
    refine c_cond quits_calmly false (by first|rfl|(simp[Act.eval, *])) ?_
    simp only[Bool.false_eq_true,↓reduceIte]
    refine c_skip (J:=fun n g=>QuitsD Try.prog n 1 g) quits_calmly ?_
    refine c_seq (J:=fun n g=>QuitsD Try.prog n 1 g) quits_calmly ?_
    refine c_seq (J:=fun n g=>QuitsD Try.prog n 1 g) quits_calmly ?_
    refine c_region quits_calmly [0,1,2,3,4,5] rfl ?_
    refine c_value quits_calmly (.int .i32 (k:Int)) rfl rfl (by decide) (fun _=>by go_simp;try (first|decide|assumption|(simp only[*];done)|simp[*])) (fun _=>by simp[go_sem, *]) ?_
    walk_nrm
    refine c_value quits_calmly (.bool true) rfl rfl (by decide) (fun _=>by go_simp;try (first|decide|assumption|(simp only[*];done)|simp[*])) (fun _=>by simp[go_sem, *]) ?_
    walk_nrm
    refine c_value quits_calmly (.bool true) rfl rfl (by decide) (fun _=>by go_simp;try (first|decide|assumption|(simp only[*];done)|simp[*])) (fun _=>by simp[go_sem, *]) ?_
    walk_nrm
    refine c_unwanted quits_calmly rfl rfl ?_
    walk_nrm
    refine c_unwanted quits_calmly rfl rfl ?_
    walk_nrm
    refine c_value quits_calmly (.bool true) rfl rfl (by decide) (fun _=>by go_simp;try (first|decide|assumption|(simp only[*];done)|simp[*])) (fun _=>by simp[go_sem, *]) ?_
    walk_nrm
    refine c_region_end quits_calmly ?_
    refine c_cond quits_calmly true (by first|rfl|(simp[Act.eval, *])) ?_
    simp only[↓reduceIte]
    refine c_ret (J:=fun n g=>QuitsD Try.prog n 1 g) quits_calmly ?_
    refine QuitsD.unwind_mark .enable rfl (by simp) rfl Try.func53 (by kernel_rfl) (by kernel_rfl) (by kernel_rfl) (by kernel_rfl) ?_
    refine quits_mono (n:=qt+1) (by omega) (QuitsD.leave0 rfl rfl Try.func62 rfl ?_)
    exact hT
   ·subst hb0
    refine c_value quits_calmly (.int .u64 x) rfl rfl (by decide) (fun _=>by go_simp;try (first|decide|assumption|(simp only[*];done)|simp[*])) (fun _=>by simp[go_sem, *]) ?_
    walk_nrm
    refine c_region_end quits_calmly ?_
    refine c_ret (J:=fun n g=>QuitsD Try.prog n 1 g) quits_calmly ?_
    refine c_leave1 (J:=fun n g=>QuitsD Try.prog n 1 g) quits_calmly rfl rfl Try.func76 rfl ?_
    walk_nrm
    refine c_value quits_calmly (.int .u64 x) rfl rfl (by decide) (fun _=>by go_simp;try (first|decide|assumption|(simp only[*];done)|simp[*])) (fun _=>by simp[go_sem, *]) ?_
    walk_nrm
    refine c_region_end quits_calmly ?_
    refine c_seq (J:=fun n g=>QuitsD Try.prog n 1 g) quits_calmly ?_
    refine c_seq (J:=fun n g=>QuitsD Try.prog n 1 g) quits_calmly ?_
    refine c_region quits_calmly [0,1,2,3,4,5,6] rfl ?_
    refine c_value quits_calmly (.int .u64 x) rfl rfl (by decide) (fun _=>by go_simp;try (first|decide|assumption|(simp only[*];done)|simp[*])) (fun _=>by simp[go_sem, *]) ?_
    walk_nrm
    refine c_value quits_calmly (.int .u64 0) rfl rfl (by decide) (fun _=>by go_simp;try (first|decide|assumption|(simp only[*];done)|simp[*])) (fun _=>by simp[go_sem, *]) ?_
    walk_nrm
    refine c_value quits_calmly (.bool false) rfl rfl (by decide) (fun _=>by go_simp;try (first|decide|assumption|(simp only[*];done)|simp[*])) (fun _=>by simp[go_sem, *]) ?_
    walk_nrm
    refine c_value quits_calmly (.bool false) rfl rfl (by decide) (fun _=>by go_simp;try (first|decide|assumption|(simp only[*];done)|simp[*])) (fun _=>by simp[go_sem, *]) ?_
    walk_nrm
    refine c_unwanted quits_calmly rfl rfl ?_
    walk_nrm
    refine c_unwanted quits_calmly rfl rfl ?_
    walk_nrm
    refine c_value quits_calmly (.bool false) rfl rfl (by decide) (fun _=>by go_simp;try (first|decide|assumption|(simp only[*];done)|simp[*])) (fun _=>by simp[go_sem, *]) ?_
    walk_nrm
    refine c_region_end quits_calmly ?_
    refine c_cond quits_calmly false (by first|rfl|(simp[Act.eval, *])) ?_
    simp only[Bool.false_eq_true,↓reduceIte]
    refine c_skip (J:=fun n g=>QuitsD Try.prog n 1 g) quits_calmly ?_
    refine c_seq (J:=fun n g=>QuitsD Try.prog n 1 g) quits_calmly ?_
    refine c_region quits_calmly [0,1,2,3] rfl ?_
    refine c_value quits_calmly (.int .u64 x) rfl rfl (by decide) (fun _=>by go_simp;try (first|decide|assumption|(simp only[*];done)|simp[*])) (fun _=>by simp[go_sem, *]) ?_
    walk_nrm
    refine c_value quits_calmly (.int .u64 (k:Int)) rfl rfl (by decide) (fun _=>by go_simp;try (first|decide|assumption|(simp only[*];done)|simp[*])) (fun _=>by simp[go_sem, *]) ?_
    walk_nrm
    refine c_value quits_calmly (.int .i32 (k:Int)) rfl rfl (by decide) (fun _=>by go_simp;try (first|decide|assumption|(simp only[*];done)|simp[*])) (fun _=>by simp[go_sem, *]) ?_
    walk_nrm
    refine c_value quits_calmly (.int .i32 (k:Int)) rfl rfl (by decide) (fun _=>by go_simp;try (first|decide|assumption|(simp only[*];done)|simp[*])) (fun _=>by simp[go_sem, *]) ?_
    walk_nrm
    refine c_region_end quits_calmly ?_
    refine c_seq (J:=fun n g=>QuitsD Try.prog n 1 g) quits_calmly ?_
    refine c_region quits_calmly [0,1,2,3] rfl ?_
    refine c_value quits_calmly (.int .u64 x) rfl rfl (by decide) (fun _=>by go_simp;try (first|decide|assumption|(simp only[*];done)|simp[*])) (fun _=>by simp[go_sem, *]) ?_
    walk_nrm
    refine c_value quits_calmly (.int .u64 1) rfl rfl (by decide) (fun _=>by go_simp;try (first|decide|assumption|(simp only[*];done)|simp[*])) (fun _=>by simp[go_sem, *]) ?_
    walk_nrm
    refine c_value quits_calmly (.int .u32 1) rfl rfl (by decide) (fun _=>by go_simp;try (first|decide|assumption|(simp only[*];done)|simp[*])) (fun _=>by simp[go_sem, *]) ?_
    walk_nrm
    refine c_value quits_calmly (.int .u32 1) rfl rfl (by decide) (fun _=>by go_simp;try (first|decide|assumption|(simp only[*];done)|simp[*])) (fun _=>by simp[go_sem, *]) ?_
    walk_nrm
    refine c_region_end quits_calmly ?_
    refine c_seq (J:=fun n g=>QuitsD Try.prog n 1 g) quits_calmly ?_
    refine c_seq (J:=fun n g=>QuitsD Try.prog n 1 g) quits_calmly ?_
    refine c_region quits_calmly [0,1,2,3,4,5,6,7,8,9] rfl ?_
    refine c_value quits_calmly (.bool true) rfl rfl (by decide) (fun _=>by go_simp;try (first|decide|assumption|(simp only[*];done)|simp[*])) (fun _=>by simp[go_sem, *]) ?_
    walk_nrm
    refine c_value quits_calmly (.int .i64 (-1)) rfl rfl (by decide) (fun _=>by go_simp;try (first|decide|assumption|(simp only[*];done)|simp[*])) (fun _=>by simp[go_sem, *]) ?_
    walk_nrm
    refine c_value quits_calmly (.bool false) rfl rfl (by decide) (fun _=>by go_simp;try (first|decide|assumption|(simp only[*];done)|simp[*])) (fun _=>by simp[go_sem, *]) ?_
    walk_nrm
    refine c_value quits_calmly (.bool false) rfl rfl (by decide) (fun _=>by go_simp;try (first|decide|assumption|(simp only[*];done)|simp[*])) (fun _=>by simp[go_sem, *]) ?_
    walk_nrm
    refine c_value quits_calmly (.bool false) rfl rfl (by decide) (fun _=>by go_simp;try (first|decide|assumption|(simp only[*];done)|simp[*])) (fun _=>by simp[go_sem, *]) ?_
    walk_nrm
    refine c_unwanted quits_calmly rfl rfl ?_
    walk_nrm
    refine c_unwanted quits_calmly rfl rfl ?_
    walk_nrm
    refine c_unwanted quits_calmly rfl rfl ?_
    walk_nrm
    refine c_unwanted quits_calmly rfl rfl ?_
    walk_nrm
    refine c_value quits_calmly (.bool false) rfl rfl (by decide) (fun _=>by go_simp;try (first|decide|assumption|(simp only[*];done)|simp[*])) (fun _=>by simp[go_sem, *]) ?_
    walk_nrm
    refine c_region_end quits_calmly ?_
    refine c_cond quits_calmly false (by first|rfl|(simp[Act.eval, *])) ?_
    simp only[Bool.false_eq_true,↓reduceIte]
    refine c_skip (J:=fun n g=>QuitsD Try.prog n 1 g) quits_calmly ?_
    refine c_seq (J:=fun n g=>QuitsD Try.prog n 1 g) quits_calmly ?_
    refine c_seq (J:=fun n g=>QuitsD Try.prog n 1 g) quits_calmly ?_
    refine c_region quits_calmly [0,1] rfl ?_
    refine c_value quits_calmly (.int .i32 (k:Int)) rfl rfl (by decide) (fun _=>by go_simp;try (first|decide|assumption|(simp only[*];done)|simp[*])) (fun _=>by simp[go_sem, *]) ?_
    walk_nrm
    refine c_value quits_calmly (.bool false) rfl rfl (by decide) (fun _=>by go_simp;try (first|decide|assumption|(simp only[*];done)|simp[*])) (fun _=>by simp[go_sem, *]) ?_
    walk_nrm
    refine c_region_end quits_calmly ?_
    refine c_cond quits_calmly false (by first|rfl|(simp[Act.eval, *])) ?_
    simp only[Bool.false_eq_true,↓reduceIte]
    refine c_skip (J:=fun n g=>QuitsD Try.prog n 1 g) quits_calmly ?_
    refine c_seq (J:=fun n g=>QuitsD Try.prog n 1 g) quits_calmly ?_
    refine c_seq (J:=fun n g=>QuitsD Try.prog n 1 g) quits_calmly ?_
    refine c_region quits_calmly [0,1,2,3,4,5,6,7,8,9,10,11] rfl ?_
    refine c_value quits_calmly (.int .u32 1) rfl rfl (by decide) (fun _=>by go_simp;try (first|decide|assumption|(simp only[*];done)|simp[*])) (fun _=>by simp[go_sem, *]) ?_
    walk_nrm
    refine c_value quits_calmly (.bool true) rfl rfl (by decide) (fun _=>by go_simp;try (first|decide|assumption|(simp only[*];done)|simp[*])) (fun _=>by simp[go_sem, *]) ?_
    walk_nrm
    refine c_value quits_calmly (.bool true) rfl rfl (by decide) (fun _=>by go_simp;try (first|decide|assumption|(simp only[*];done)|simp[*])) (fun _=>by simp[go_sem, *]) ?_
    walk_nrm
    refine c_value quits_calmly (.int .i64 (-1)) rfl rfl (by decide) (fun _=>by go_simp;try (first|decide|assumption|(simp only[*];done)|simp[*])) (fun _=>by simp[go_sem, *]) ?_
    walk_nrm
    refine c_value quits_calmly (.bool false) rfl rfl (by decide) (fun _=>by go_simp;try (first|decide|assumption|(simp only[*];done)|simp[*])) (fun _=>by simp[go_sem, *]) ?_
    walk_nrm
    refine c_value quits_calmly (.bool false) rfl rfl (by decide) (fun _=>by go_simp;try (first|decide|assumption|(simp only[*];done)|simp[*])) (fun _=>by simp[go_sem, *]) ?_
    walk_nrm
    refine c_value quits_calmly (.bool false) rfl rfl (by decide) (fun _=>by go_simp;try (first|decide|assumption|(simp only[*];done)|simp[*])) (fun _=>by simp[go_sem, *]) ?_
    walk_nrm
    refine c_unwanted quits_calmly rfl rfl ?_
    walk_nrm
    refine c_unwanted quits_calmly rfl rfl ?_
    walk_nrm
    refine c_unwanted quits_calmly rfl rfl ?_
    walk_nrm
    refine c_unwanted quits_calmly rfl rfl ?_
    walk_nrm
    refine c_value quits_calmly (.bool false) rfl rfl (by decide) (fun _=>by go_simp;try (first|decide|assumption|(simp only[*];done)|simp[*])) (fun _=>by simp[go_sem, *]) ?_
    walk_nrm
    refine c_region_end quits_calmly ?_
    refine c_cond quits_calmly false (by first|rfl|(simp[Act.eval, *])) ?_
    simp only[Bool.false_eq_true,↓reduceIte]
    refine c_skip (J:=fun n g=>QuitsD Try.prog n 1 g) quits_calmly ?_
    refine c_seq (J:=fun n g=>QuitsD Try.prog n 1 g) quits_calmly ?_
    refine c_seq (J:=fun n g=>QuitsD Try.prog n 1 g) quits_calmly ?_
    refine c_region quits_calmly [0,1,2,3,4,5] rfl ?_
    refine c_value quits_calmly (.int .i32 (k:Int)) rfl rfl (by decide) (fun _=>by go_simp;try (first|decide|assumption|(simp only[*];done)|simp[*])) (fun _=>by simp[go_sem, *]) ?_
    walk_nrm
    refine c_value quits_calmly (.bool true) rfl rfl (by decide) (fun _=>by go_simp;try (first|decide|assumption|(simp only[*];done)|simp[*])) (fun _=>by simp[go_sem, *]) ?_
    walk_nrm
    refine c_value quits_calmly (.bool true) rfl rfl (by decide) (fun _=>by go_simp;try (first|decide|assumption|(simp only[*];done)|simp[*])) (fun _=>by simp[go_sem, *]) ?_
    walk_nrm
    refine c_unwanted quits_calmly rfl rfl ?_
    walk_nrm
    refine c_unwanted quits_calmly rfl rfl ?_
    walk_nrm
    refine c_value quits_calmly (.bool true) rfl rfl (by decide) (fun _=>by go_simp;try (first|decide|assumption|(simp only[*];done)|simp[*])) (fun _=>by simp[go_sem, *]) ?_
    walk_nrm
    refine c_region_end quits_calmly ?_
    refine c_cond quits_calmly true (by first|rfl|(simp[Act.eval, *])) ?_
    simp only[↓reduceIte]
    refine c_ret (J:=fun n g=>QuitsD Try.prog n 1 g) quits_calmly ?_
    refine QuitsD.unwind_mark .enable rfl (by simp) rfl Try.func53 (by kernel_rfl) (by kernel_rfl) (by kernel_rfl) (by kernel_rfl) ?_
    refine quits_mono (n:=qt+1) (by omega) (QuitsD.leave0 rfl rfl Try.func62 rfl ?_)
    exact hT
 ·walk_nrm
  obtain⟨hk0,hb0⟩:=ht
  subst hk0 hb0
  obtain rfl:x=1:=by rw[←hx];simp
  refine c_value Tail.calmly (.int .u64 1) rfl rfl (by decide) (fun _=>by go_simp;try (first|decide|assumption|(simp only[*];done)|simp[*])) (fun _=>by simp[go_sem, *]) ?_
  walk_nrm
  refine c_region_end Tail.calmly ?_
  refine c_ret (J:=fun n g=>Tail Try.prog s n 3 g) Tail.calmly ?_
  refine c_leave1 (J:=fun n g=>Tail Try.prog s n 3 g) Tail.calmly rfl rfl Try.func76 rfl ?_
  walk_nrm
  refine c_value Tail.calmly (.int .u64 1) rfl rfl (by decide) (fun _=>by go_simp;try (first|decide|assumption|(simp only[*];done)|simp[*])) (fun _=>by simp[go_sem, *]) ?_
  walk_nrm
  refine c_region_end Tail.calmly ?_
  refine c_seq (J:=fun n g=>Tail Try.prog s n 3 g) Tail.calmly ?_
  refine c_seq (J:=fun n g=>Tail Try.prog s n 3 g) Tail.calmly ?_
  refine c_region Tail.calmly [0,1,2,3,4,5,6] rfl ?_
  refine c_value Tail.calmly (.int .u64 1) rfl rfl (by decide) (fun _=>by go_simp;try (first|decide|assumption|(simp only[*];done)|simp[*])) (fun _=>by simp[go_sem, *]) ?_
  walk_nrm
  refine c_value Tail.calmly (.int .u64 0) rfl rfl (by decide) (fun _=>by go_simp;try (first|decide|assumption|(simp only[*];done)|simp[*])) (fun _=>by simp[go_sem, *]) ?_
  walk_nrm
  refine c_value Tail.calmly (.bool false) rfl rfl (by decide) (fun _=>by go_simp;try (first|decide|assumption|(simp only[*];done)|simp[*])) (fun _=>by simp[go_sem, *]) ?_
  walk_nrm
  refine c_value Tail.calmly (.bool false) rfl rfl (by decide) (fun _=>by go_simp;try (first|decide|assumption|(simp only[*];done)|simp[*])) (fun _=>by simp[go_sem, *]) ?_
  walk_nrm
  refine c_unwanted Tail.calmly rfl rfl ?_
  walk_nrm
  refine c_unwanted Tail.calmly rfl rfl ?_
  walk_nrm
  refine c_value Tail.calmly (.bool false) rfl rfl (by decide) (fun _=>by go_simp;try (first|decide|assumption|(simp only[*];done)|simp[*])) (fun _=>by simp[go_sem, *]) ?_
  walk_nrm
  refine c_region_end Tail.calmly ?_
  refine c_cond Tail.calmly false (by first|rfl|(simp[Act.eval, *])) ?_
  simp only[Bool.false_eq_true,↓reduceIte]
  refine c_skip (J:=fun n g=>Tail Try.prog s n 3 g) Tail.calmly ?_
  refine c_seq (J:=fun n g=>Tail Try.prog s n 3 g) Tail.calmly ?_
  refine c_region Tail.calmly [0,1,2,3] rfl ?_
  refine c_value Tail.calmly (.int .u64 1) rfl rfl (by decide) (fun _=>by go_simp;try (first|decide|assumption|(simp only[*];done)|simp[*])) (fun _=>by simp[go_sem, *]) ?_
  walk_nrm
  refine c_value Tail.calmly (.int .u64 0) rfl rfl (by decide) (fun _=>by go_simp;try (first|decide|assumption|(simp only[*];done)|simp[*])) (fun _=>by simp[go_sem, *]) ?_
  walk_nrm
  refine c_value Tail.calmly (.int .i32 0) rfl rfl (by decide) (fun _=>by go_simp;try (first|decide|assumption|(simp only[*];done)|simp[*])) (fun _=>by simp[go_sem, *]) ?_
  walk_nrm
  refine c_value Tail.calmly (.int .i32 0) rfl rfl (by decide) (fun _=>by go_simp;try (first|decide|assumption|(simp only[*];done)|simp[*])) (fun _=>by simp[go_sem, *]) ?_
  walk_nrm
  refine c_region_end Tail.calmly ?_
  refine c_seq (J:=fun n g=>Tail Try.prog s n 3 g) Tail.calmly ?_
  refine c_region Tail.calmly [0,1,2,3] rfl ?_
  refine c_value Tail.calmly (.int .u64 1) rfl rfl (by decide) (fun _=>by go_simp;try (first|decide|assumption|(simp only[*];done)|simp[*])) (fun _=>by simp[go_sem, *]) ?_
  walk_nrm
  refine c_value Tail.calmly (.int .u64 1) rfl rfl (by decide) (fun _=>by go_simp;try (first|decide|assumption|(simp only[*];done)|simp[*])) (fun _=>by simp[go_sem, *]) ?_
  walk_nrm
  refine c_value Tail.calmly (.int .u32 1) rfl rfl (by decide) (fun _=>by go_simp;try (first|decide|assumption|(simp only[*];done)|simp[*])) (fun _=>by simp[go_sem, *]) ?_
  walk_nrm
  refine c_value Tail.calmly (.int .u32 1) rfl rfl (by decide) (fun _=>by go_simp;try (first|decide|assumption|(simp only[*];done)|simp[*])) (fun _=>by simp[go_sem, *]) ?_
  walk_nrm
  refine c_region_end Tail.calmly ?_
  refine c_seq (J:=fun n g=>Tail Try.prog s n 3 g) Tail.calmly ?_
  refine c_seq (J:=fun n g=>Tail Try.prog s n 3 g) Tail.calmly ?_
  refine c_region Tail.calmly [0,1,2,3,4,5,6,7,8,9] rfl ?_
  refine c_value Tail.calmly (.bool true) rfl rfl (by decide) (fun _=>by go_simp;try (first|decide|assumption|(simp only[*];done)|simp[*])) (fun _=>by simp[go_sem, *]) ?_
  walk_nrm
  refine c_value Tail.calmly (.int .i64 (-1)) rfl rfl (by decide) (fun _=>by go_simp;try (first|decide|assumption|(simp only[*];done)|simp[*])) (fun _=>by simp[go_sem, *]) ?_
  walk_nrm
  refine c_value Tail.calmly (.bool false) rfl rfl (by decide) (fun _=>by go_simp;try (first|decide|assumption|(simp only[*];done)|simp[*])) (fun _=>by simp[go_sem, *]) ?_
  walk_nrm
  refine c_value Tail.calmly (.bool false) rfl rfl (by decide) (fun _=>by go_simp;try (first|decide|assumption|(simp only[*];done)|simp[*])) (fun _=>by simp[go_sem, *]) ?_
  walk_nrm
  refine c_value Tail.calmly (.bool false) rfl rfl (by decide) (fun _=>by go_simp;try (first|decide|assumption|(simp only[*];done)|simp[*])) (fun _=>by simp[go_sem, *]) ?_
  walk_nrm
  refine c_unwanted Tail.calmly rfl rfl ?_
  walk_nrm
  refine c_unwanted Tail.calmly rfl rfl ?_
  walk_nrm
  refine c_unwanted Tail.calmly rfl rfl ?_
  walk_nrm
  refine c_unwanted Tail.calmly rfl rfl ?_
  walk_nrm
  refine c_value Tail.calmly (.bool false) rfl rfl (by decide) (fun _=>by go_simp;try (first|decide|assumption|(simp only[*];done)|simp[*])) (fun _=>by simp[go_sem, *]) ?_
  walk_nrm
  refine c_region_end Tail.calmly ?_
  refine c_cond Tail.calmly false (by first|rfl|(simp[Act.eval, *])) ?_
  simp only[Bool.false_eq_true,↓reduceIte]
  refine c_skip (J:=fun n g=>Tail Try.prog s n 3 g) Tail.calmly ?_
  refine c_seq (J:=fun n g=>Tail Try.prog s n 3 g) Tail.calmly ?_
  refine c_seq (J:=fun n g=>Tail Try.prog s n 3 g) Tail.calmly ?_
  refine c_region Tail.calmly [0,1] rfl ?_
  refine c_value Tail.calmly (.int .i32 0) rfl rfl (by decide) (fun _=>by go_simp;try (first|decide|assumption|(simp only[*];done)|simp[*])) (fun _=>by simp[go_sem, *]) ?_
  walk_nrm
  refine c_value Tail.calmly (.bool false) rfl rfl (by decide) (fun _=>by go_simp;try (first|decide|assumption|(simp only[*];done)|simp[*])) (fun _=>by simp[go_sem, *]) ?_
  walk_nrm
  refine c_region_end Tail.calmly ?_
  refine c_cond Tail.calmly false (by first|rfl|(simp[Act.eval, *])) ?_
  simp only[Bool.false_eq_true,↓reduceIte]
  refine c_skip (J:=fun n g=>Tail Try.prog s n 3 g) Tail.calmly ?_
  refine c_seq (J:=fun n g=>Tail Try.prog s n 3 g) Tail.calmly ?_
  refine c_seq (J:=fun n g=>Tail Try.prog s n 3 g) Tail.calmly ?_
  refine c_region Tail.calmly [0,1,2,3,4,5,6,7,8,9,10,11] rfl ?_
  refine c_value Tail.calmly (.int .u32 1) rfl rfl (by decide) (fun _=>by go_simp;try (first|decide|assumption|(simp only[*];done)|simp[*])) (fun _=>by simp[go_sem, *]) ?_
  walk_nrm
  refine c_value Tail.calmly (.bool true) rfl rfl (by decide) (fun _=>by go_simp;try (first|decide|assumption|(simp only[*];done)|simp[*])) (fun _=>by simp[go_sem, *]) ?_
  walk_nrm
  refine c_value Tail.calmly (.bool true) rfl rfl (by decide) (fun _=>by go_simp;try (first|decide|assumption|(simp only[*];done)|simp[*])) (fun _=>by simp[go_sem, *]) ?_
  walk_nrm
  refine c_value Tail.calmly (.int .i64 (-1)) rfl rfl (by decide) (fun _=>by go_simp;try (first|decide|assumption|(simp only[*];done)|simp[*])) (fun _=>by simp[go_sem, *]) ?_
  walk_nrm
  refine c_value Tail.calmly (.bool false) rfl rfl (by decide) (fun _=>by go_simp;try (first|decide|assumption|(simp only[*];done)|simp[*])) (fun _=>by simp[go_sem, *]) ?_
  walk_nrm
  refine c_value Tail.calmly (.bool false) rfl rfl (by decide) (fun _=>by go_simp;try (first|decide|assumption|(simp only[*];done)|simp[*])) (fun _=>by simp[go_sem, *]) ?_
  walk_nrm
  refine c_value Tail.calmly (.bool false) rfl rfl (by decide) (fun _=>by go_simp;try (first|decide|assumption|(simp only[*];done)|simp[*])) (fun _=>by simp[go_sem, *]) ?_
  walk_nrm
  refine c_unwanted Tail.calmly rfl rfl ?_
  walk_nrm
  refine c_unwanted Tail.calmly rfl rfl ?_
  walk_nrm
  refine c_unwanted Tail.calmly rfl rfl ?_
  walk_nrm
  refine c_unwanted Tail.calmly rfl rfl ?_
  walk_nrm
  refine c_value Tail.calmly (.bool false) rfl rfl (by decide) (fun _=>by go_simp;try (first|decide|assumption|(simp only[*];done)|simp[*])) (fun _=>by simp[go_sem, *]) ?_
  walk_nrm
  refine c_region_end Tail.calmly ?_
  refine c_cond Tail.calmly false (by first|rfl|(simp[Act.eval, *])) ?_
  simp only[Bool.false_eq_true,↓reduceIte]
  refine c_skip (J:=fun n g=>Tail Try.prog s n 3 g) Tail.calmly ?_
  refine c_seq (J:=fun n g=>Tail Try.prog s n 3 g) Tail.calmly ?_
  refine c_seq (J:=fun n g=>Tail Try.prog s n 3 g) Tail.calmly ?_
  refine c_region Tail.calmly [0,1,2,3,4,5] rfl ?_
  refine c_value Tail.calmly (.int .i32 0) rfl rfl (by decide) (fun _=>by go_simp;try (first|decide|assumption|(simp only[*];done)|simp[*])) (fun _=>by simp[go_sem, *]) ?_
  walk_nrm
  refine c_value Tail.calmly (.bool false) rfl rfl (by decide) (fun _=>by go_simp;try (first|decide|assumption|(simp only[*];done)|simp[*])) (fun _=>by simp[go_sem, *]) ?_
  walk_nrm
  refine c_value Tail.calmly (.bool false) rfl rfl (by decide) (fun _=>by go_simp;try (first|decide|assumption|(simp only[*];done)|simp[*])) (fun _=>by simp[go_sem, *]) ?_
  walk_nrm
  refine c_value Tail.calmly (.int .u32 1) rfl rfl (by decide) (fun _=>by go_simp;try (first|decide|assumption|(simp only[*];done)|simp[*])) (fun _=>by simp[go_sem, *]) ?_
  walk_nrm
  refine c_value Tail.calmly (.bool false) rfl rfl (by decide) (fun _=>by go_simp;try (first|decide|assumption|(simp only[*];done)|simp[*])) (fun _=>by simp[go_sem, *]) ?_
  walk_nrm
  refine c_value Tail.calmly (.bool false) rfl rfl (by decide) (fun _=>by go_simp;try (first|decide|assumption|(simp only[*];done)|simp[*])) (fun _=>by simp[go_sem, *]) ?_
  walk_nrm
  refine c_region_end Tail.calmly ?_
  refine c_cond Tail.calmly false (by first|rfl|(simp[Act.eval, *])) ?_
  simp only[Bool.false_eq_true,↓reduceIte]
  refine c_skip (J:=fun n g=>Tail Try.prog s n 3 g) Tail.calmly ?_
  refine c_seq (J:=fun n g=>Tail Try.prog s n 3 g) Tail.calmly ?_
  refine c_seq (J:=fun n g=>Tail Try.prog s n 3 g) Tail.calmly ?_
  refine c_region Tail.calmly [0,1,2,3,4,5] rfl ?_
  refine c_value Tail.calmly (.pointer (some ⟨s,5,none⟩)) rfl rfl (by decide) (fun _=>by go_simp;try (first|decide|assumption|(simp only[*];done)|simp[*])) (fun _=>by simp[go_sem, *]) ?_
  walk_nrm
  refine c_value Tail.calmly (.pointer (some ⟨s,5,none⟩)) rfl rfl (by decide) (fun _=>by go_simp;try (first|decide|assumption|(simp only[*];done)|simp[*])) (fun _=>by simp[go_sem, *]) ?_
  walk_nrm
  refine c_value Tail.calmly (.pointer (some ⟨s,5,none⟩)) rfl rfl (by decide) (fun _=>by go_simp;try (first|decide|assumption|(simp only[*];done)|simp[*])) (fun _=>by simp[go_sem, *]) ?_
  walk_nrm
  refine c_call Tail.calmly rfl rfl (by decide) rfl Try.func52 (by kernel_rfl) rfl ?_
  simp only[Try.f52]
  walk_nrm
  refine c_seq (J:=fun n g=>Tail Try.prog s n 3 g) Tail.calmly ?_
  refine c_region Tail.calmly [0] rfl ?_
  refine c_value Tail.calmly (.int .u64 0) rfl rfl (by decide) (fun _=>by go_simp;try (first|decide|assumption|(simp only[*];done)|simp[*])) (fun _=>by simp[go_sem, *]) ?_
  walk_nrm
  refine c_region_end Tail.calmly ?_
  refine c_seq (J:=fun n g=>Tail Try.prog s n 3 g) Tail.calmly ?_
  refine c_region Tail.calmly [0,1,2,3,4] rfl ?_
  refine c_value Tail.calmly (.pointer (some ⟨s,5,none⟩)) rfl rfl (by decide) (fun _=>by go_simp;try (first|decide|assumption|(simp only[*];done)|simp[*])) (fun _=>by simp[go_sem, *]) ?_
  walk_nrm
  refine c_value Tail.calmly (.pointer (some ⟨s,5,none⟩)) rfl rfl (by decide) (fun _=>by go_simp;try (first|decide|assumption|(simp only[*];done)|simp[*])) (fun _=>by simp[go_sem, *]) ?_
  walk_nrm
  refine c_value Tail.calmly (.pointer (some ⟨s,5,none⟩)) rfl rfl (by decide) (fun _=>by go_simp;try (first|decide|assumption|(simp only[*];done)|simp[*])) (fun _=>by simp[go_sem, *]) ?_
  walk_nrm
  refine Tail.load rfl (fun w hc=>⟨_, ?_,stepG_load_atomic rfl rfl (by decide) rfl Try.func69 (by kernel_rfl) (by kernel_rfl) (by kernel_rfl) .u64 (by kernel_rfl) rfl hc⟩) ?_
  ·intro e he;simp only[List.mem_toArray,List.mem_cons,List.not_mem_nil,or_false] at he;subst he;exact⟨5,_,.inl rfl,rfl⟩
  walk_nrm
  refine c_value Tail.calmly (.int .u64 1) rfl rfl (by decide) (fun _=>by go_simp;try (first|decide|assumption|(simp only[*];done)|simp[*])) (fun _=>by simp[go_sem, *]) ?_
  walk_nrm
  refine c_region_end Tail.calmly ?_
  refine c_ret (J:=fun n g=>Tail Try.prog s n 2 g) Tail.calmly ?_
  refine c_leave1 (J:=fun n g=>Tail Try.prog s n 2 g) Tail.calmly rfl rfl Try.func52 rfl ?_
  walk_nrm
  refine c_value Tail.calmly (.int .u64 1) rfl rfl (by decide) (fun _=>by go_simp;try (first|decide|assumption|(simp only[*];done)|simp[*])) (fun _=>by simp[go_sem, *]) ?_
  walk_nrm
  refine c_value Tail.calmly (.bool false) rfl rfl (by decide) (fun _=>by go_simp;try (first|decide|assumption|(simp only[*];done)|simp[*])) (fun _=>by simp[go_sem, *]) ?_
  walk_nrm
  refine c_region_end Tail.calmly ?_
  refine c_cond Tail.calmly false (by first|rfl|(simp[Act.eval, *])) ?_
  simp only[Bool.false_eq_true,↓reduceIte]
  refine c_skip (J:=fun n g=>Tail Try.prog s n 2 g) Tail.calmly ?_
  refine c_seq (J:=fun n g=>Tail Try.prog s n 2 g) Tail.calmly ?_
  refine c_region Tail.calmly [0,1,2,3] rfl ?_
  refine c_value Tail.calmly (.pointer (some ⟨s,5,none⟩)) rfl rfl (by decide) (fun _=>by go_simp;try (first|decide|assumption|(simp only[*];done)|simp[*])) (fun _=>by simp[go_sem, *]) ?_
  walk_nrm
  refine c_value Tail.calmly (.pointer (some ⟨s,5,none⟩)) rfl rfl (by decide) (fun _=>by go_simp;try (first|decide|assumption|(simp only[*];done)|simp[*])) (fun _=>by simp[go_sem, *]) ?_
  walk_nrm
  refine c_value Tail.calmly (.pointer (some ⟨s,5,none⟩)) rfl rfl (by decide) (fun _=>by go_simp;try (first|decide|assumption|(simp only[*];done)|simp[*])) (fun _=>by simp[go_sem, *]) ?_
  walk_nrm
  refine c_call Tail.calmly rfl rfl (by decide) rfl Try.func78 (by kernel_rfl) rfl ?_
  simp only[Try.f78]
  walk_nrm
  refine c_region Tail.calmly [0,1,2,3,4] rfl ?_
  refine c_value Tail.calmly (.pointer (some ⟨s,5,none⟩)) rfl rfl (by decide) (fun _=>by go_simp;try (first|decide|assumption|(simp only[*];done)|simp[*])) (fun _=>by simp[go_sem, *]) ?_
  walk_nrm
  refine c_value Tail.calmly (.pointer (some ⟨s,5,none⟩)) rfl rfl (by decide) (fun _=>by go_simp;try (first|decide|assumption|(simp only[*];done)|simp[*])) (fun _=>by simp[go_sem, *]) ?_
  walk_nrm
  refine c_value Tail.calmly (.pointer (some ⟨s,5,none⟩)) rfl rfl (by decide) (fun _=>by go_simp;try (first|decide|assumption|(simp only[*];done)|simp[*])) (fun _=>by simp[go_sem, *]) ?_
  walk_nrm
  refine c_value Tail.calmly (.int .u64 0) rfl rfl (by decide) (fun _=>by go_simp;try (first|decide|assumption|(simp only[*];done)|simp[*])) (fun _=>by simp[go_sem, *]) ?_
  walk_nrm
  refine Tail.store rfl (fun w hc hz=>⟨_, ?_,stepG_store_atomic rfl rfl (by decide) rfl Try.func85 (by kernel_rfl) (by kernel_rfl) (by kernel_rfl) (by kernel_rfl) rfl rfl hc hz⟩) ?_
  ·intro e he;simp only[List.mem_toArray,List.mem_cons,List.not_mem_nil,or_false] at he;subst he;exact⟨5,_,.inl rfl,rfl⟩
  walk_nrm
  refine c_region_end Tail.calmly ?_
  refine c_end (J:=fun n g=>Tail Try.prog s n 1 g) Tail.calmly ?_
  refine c_leave0 (J:=fun n g=>Tail Try.prog s n 1 g) Tail.calmly rfl rfl Try.func78 rfl ?_
  walk_nrm
  refine c_region_end Tail.calmly ?_
  refine c_seq (J:=fun n g=>Tail Try.prog s n 1 g) Tail.calmly ?_
  refine c_seq (J:=fun n g=>Tail Try.prog s n 1 g) Tail.calmly ?_
  refine c_region Tail.calmly [0] rfl ?_
  refine c_value Tail.calmly (.bool false) rfl rfl (by decide) (fun _=>by go_simp;try (first|decide|assumption|(simp only[*];done)|simp[*])) (fun _=>by simp[go_sem, *]) ?_
  walk_nrm
  refine c_region_end Tail.calmly ?_
  refine c_cond Tail.calmly false (by first|rfl|(simp[Act.eval, *])) ?_
  simp only[Bool.false_eq_true,↓reduceIte]
  refine c_skip (J:=fun n g=>Tail Try.prog s n 1 g) Tail.calmly ?_
  refine c_block (J:=fun n g=>Tail Try.prog s n 1 g) Tail.calmly ?_
  refine c_loop (J:=fun n g=>Tail Try.prog s n 1 g) Tail.calmly ?_
  refine c_seq (J:=fun n g=>Tail Try.prog s n 1 g) Tail.calmly ?_
  refine c_seq (J:=fun n g=>Tail Try.prog s n 1 g) Tail.calmly ?_
  refine c_region Tail.calmly [0,1] rfl ?_
  refine c_value Tail.calmly (.int .u32 1) rfl rfl (by decide) (fun _=>by go_simp;try (first|decide|assumption|(simp only[*];done)|simp[*])) (fun _=>by simp[go_sem, *]) ?_
  walk_nrm
  refine c_value Tail.calmly (.bool true) rfl rfl (by decide) (fun _=>by go_simp;try (first|decide|assumption|(simp only[*];done)|simp[*])) (fun _=>by simp[go_sem, *]) ?_
  walk_nrm
  refine c_region_end Tail.calmly ?_
  refine c_cond Tail.calmly true (by first|rfl|(simp[Act.eval, *])) ?_
  simp only[↓reduceIte]
  refine c_skip (J:=fun n g=>Tail Try.prog s n 1 g) Tail.calmly ?_
  refine c_seq (J:=fun n g=>Tail Try.prog s n 1 g) Tail.calmly ?_
  refine c_block (J:=fun n g=>Tail Try.prog s n 1 g) Tail.calmly ?_
  refine c_region Tail.calmly [0,1,2,3] rfl ?_
  refine c_value Tail.calmly (.pointer (some ⟨s,5,none⟩)) rfl rfl (by decide) (fun _=>by go_simp;try (first|decide|assumption|(simp only[*];done)|simp[*])) (fun _=>by simp[go_sem, *]) ?_
  walk_nrm
  refine c_value Tail.calmly (.pointer (some ⟨s,5,none⟩)) rfl rfl (by decide) (fun _=>by go_simp;try (first|decide|assumption|(simp only[*];done)|simp[*])) (fun _=>by simp[go_sem, *]) ?_
  walk_nrm
  refine c_value Tail.calmly (.pointer (some ⟨s,6,none⟩)) rfl rfl (by decide) (fun _=>by go_simp;try (first|decide|assumption|(simp only[*];done)|simp[*])) (fun _=>by simp[go_sem, *]) ?_
  walk_nrm
  refine Tail.wake rfl (mayWake_entry rfl rfl Try.func79 (by kernel_rfl)) rfl (fun w hc hz=>(stepG_semrelease rfl rfl (by decide) rfl Try.func79 (by kernel_rfl) (by kernel_rfl) (by kernel_rfl) (by kernel_rfl) (by simp[Act.eval,c6]) hc hz).trans (by rfl)) ?_
  walk_nrm
  refine c_region_end quits_calmly ?_
  refine c_inBlock (J:=fun n g=>QuitsD Try.prog n 1 g) quits_calmly ?_
  refine c_region quits_calmly [0,1,2] rfl ?_
  refine c_value quits_calmly (.int .u32 1) rfl rfl (by decide) (fun _=>by go_simp;try (first|decide|assumption|(simp only[*];done)|simp[*])) (fun _=>by simp[go_sem, *]) ?_
  walk_nrm
  refine c_value quits_calmly (.int .u32 0) rfl rfl (by decide) (fun _=>by go_simp;try (first|decide|assumption|(simp only[*];done)|simp[*])) (fun _=>by simp[go_sem, *]) ?_
  walk_nrm
  refine c_value quits_calmly (.int .u32 0) rfl rfl (by decide) (fun _=>by go_simp;try (first|decide|assumption|(simp only[*];done)|simp[*])) (fun _=>by simp[go_sem, *]) ?_
  walk_nrm
  refine c_region_end quits_calmly ?_
  refine c_inLoop (J:=fun n g=>QuitsD Try.prog n 1 g) quits_calmly ?_
  refine c_seq (J:=fun n g=>QuitsD Try.prog n 1 g) quits_calmly ?_
  refine c_seq (J:=fun n g=>QuitsD Try.prog n 1 g) quits_calmly ?_
  refine c_region quits_calmly [0,1] rfl ?_
  refine c_value quits_calmly (.int .u32 0) rfl rfl (by decide) (fun _=>by go_simp;try (first|decide|assumption|(simp only[*];done)|simp[*])) (fun _=>by simp[go_sem, *]) ?_
  walk_nrm
  refine c_value quits_calmly (.bool false) rfl rfl (by decide) (fun _=>by go_simp;try (first|decide|assumption|(simp only[*];done)|simp[*])) (fun _=>by simp[go_sem, *]) ?_
  walk_nrm
  refine c_region_end quits_calmly ?_
  refine c_cond quits_calmly false (by first|rfl|(simp[Act.eval, *])) ?_
  simp only[Bool.false_eq_true,↓reduceIte]
  refine c_exit quits_calmly rfl ?_
  refine c_end (J:=fun n g=>QuitsD Try.prog n 1 g) quits_calmly ?_
  refine QuitsD.unwind_mark .enable rfl (by simp) rfl Try.func53 (by kernel_rfl) (by kernel_rfl) (by kernel_rfl) (by kernel_rfl) ?_
  refine quits_mono (n:=qt+1) (by omega) (QuitsD.leave0 rfl rfl Try.func62 rfl ?_)
  exact hT
end Co
end Go.Proofs.Ytlngbdggehghgaa

namespace Go.Proofs.Ytlngbdggehghgaa
set_option linter.unusedSimpArgs false
set_option linter.unusedVariables false
namespace Co
open Go.Conc Go.RowKit
noncomputable def bot:Frame:={(default:Frame) with fn:=Try.prog.funcs.size,defers:=[],mode:=.panicking [goexitEntry]}
noncomputable def body63:Code:=Try.f63.body.getD .skip
def b63:Frame:=baseD 63
def sndC:Code→Code| .seq _ y=>y|c=>c
def fstC:Code→Code| .seq x _=>x|c=>c
def inC:Code→Code| .block _ c=>c| .loop c=>c|c=>c
def opsC:Code→Array Oper| .region _ o _=>o|_=>#[]
noncomputable def lb:Code:=inC (inC (sndC (sndC body63)))
noncomputable def todoL:List Item:=[.inRegion (opsC (fstC lb)) [0,1],.code (sndC lb),.inLoop lb,.inBlock 0]
def ztask:Value:=.agg #[.int .i64 0,.int .i64 0,.int .i64 0,.int .i64 0,.int .i64 0,.int .i64 0,.int .i64 0]
def doneC (s:Nat):Deferred:=dcall 80 #[.pointer (some ⟨s,5,none⟩)]
noncomputable def RL (s:Nat) (x:Wk) (Jp Je Jf Jm J3 Jo Ji Jj Jy J1 Jn Ju Ja Jr Jw Jc Jz Jx J2 J0 Js Jq Jg Jt Jl J4 Jb Jd Jh Jv Jk:Value):Goroutine:=
 G (b63.at ⟨#[.pointer (some ⟨s,0,none⟩),.pointer (some ⟨x.r,0,none⟩),Jp,Je,Jf,Jm,J3,Jo,Ji,Jj,Jy,J1,.chan (some x.ct),Jn,Ju,Ja,Jr,Jw,Jc,Jz,Jx,J2,J0,Js,Jq,Jg,Jt,Jl,J4,Jb,Jd,Jh,Jv,Jk],[doneC s]⟩ todoL) [bot]
def homeL (s:Nat) (x:Wk) (g:Goroutine):Prop:=∃Jp Je Jf Jm J3 Jo Ji Jj Jy J1 Jn Ju Ja Jr Jw Jc Jz Jx J2 J0 Js Jq Jg Jt Jl J4 Jb Jd Jh Jv Jk,g=RL s x Jp Je Jf Jm J3 Jo Ji Jj Jy J1 Jn Ju Ja Jr Jw Jc Jz Jx J2 J0 Js Jq Jg Jt Jl J4 Jb Jd Jh Jv Jk
noncomputable def κL:Kit:={zt:=ztask,home:=homeL,R:=400}
theorem quitsTail (T:Array Value) (k:List Item):QuitsD Try.prog 2 0 (G {b63.at ⟨T,[]⟩ k with mode:=.returning} [bot]):=by
 refine QuitsD.ctl (g':=G bot []) rfl (fun w=> ?_) ?_
 ·simp[G,stepG,unwind,doReturn,results,Frame.at,b63,baseD,bot,Try.func63,Try.f63,seen,GStep.after,goexitEntry]
 refine QuitsD.ctl (g':={G bot [] with status:=.finished}) rfl (fun w=> ?_) ⟨rfl,rfl⟩
 simp[G,stepG,unwind,bot,goexitEntry,Frame.catches]
 rfl
noncomputable def body80:Code:=Try.f80.body.getD .skip
set_option maxRecDepth 100000 in
set_option maxHeartbeats 4000000 in
theorem done_way {s:Nat} (T:Array Value) (k:List Item):
 Way Try.prog s 262 0 false (G {b63.at ⟨T,[doneC s]⟩ k with mode:=.returning} [bot]):=by
 refine c_unwind (J:=fun n g=>Way Try.prog s n 0 false g) Way.calmly rfl Try.func80 (by kernel_rfl) rfl ?_
 simp only[Try.f80]
 walk_nrm
 refine c_region Way.calmly [0,1] rfl ?_
 refine c_value Way.calmly (.pointer (some ⟨s,5,none⟩)) rfl rfl (by decide) (fun _=>by go_simp;try (first|decide|assumption|(simp only[*];done)|simp[*])) (fun _=>by simp[go_sem, *]) ?_
 walk_nrm
 refine c_call Way.calmly rfl rfl (by decide) rfl Try.func62 (by kernel_rfl) rfl ?_
 simp only[Try.f62]
 walk_nrm
 have h:=add_neg (s:=s) (qt:=8) (b₀:=baseD 80) (i₀:=1) (rest₀:=[]) (k₀:=[]) (ops₀:=opsC body80) (a₀:=⟨#[.pointer (some ⟨s,5,none⟩),undef,.pointer (some ⟨s,5,none⟩),undef],[]⟩) (cs:=[{b63.at ⟨T,[]⟩ k with mode:=.returning},bot]) ?_
 ·simp only[body62,Try.f62,Option.getD_some,opsC,body80,Try.f80] at h
  exact h
 simp only[opsC,body80,Try.f80,Option.getD_some]
 walk_nrm
 refine c_region_end quits_calmly ?_
 refine c_end (J:=fun n g=>QuitsD Try.prog n 0 g) quits_calmly ?_
 refine QuitsD.leaveD rfl rfl Try.func80 rfl rfl ?_
 exact quits_mono (by omega) (quitsTail T k)
set_option maxRecDepth 100000 in
set_option maxHeartbeats 4000000 in
theorem κL_ok:κL.Ok Try.prog:=by
 refine⟨fun s x g₂ hg=>⟨268,by decide, ?_⟩⟩
 obtain⟨Jp,Je,Jf,Jm,J3,Jo,Ji,Jj,Jy,J1,Jn,Ju,Ja,Jr,Jw,Jc,Jz,Jx,J2,J0,Js,Jq,Jg,Jt,Jl,J4,Jb,Jd,Jh,Jv,Jk,rfl⟩:=hg
 unfold RL
 simp only[todoL,lb,body63,Try.f63,Option.getD_some,sndC,fstC,inC,opsC]
 rw[served_fr,Frame.finish_at]
 simp only[recvd,if_true]
 walk_nrm
 refine c_value Way.calmly (.bool false) rfl rfl (by decide) (fun _=>by go_simp;try (first|decide|assumption|(simp only[*];done)|simp[*])) (fun _=>by simp[go_sem, *]) ?_
 walk_nrm
 refine c_region_end Way.calmly ?_
 refine c_seq (J:=fun n g=>Way Try.prog s n 0 false g) Way.calmly ?_
 refine c_cond Way.calmly false (by first|rfl|(simp[Act.eval, *])) ?_
 simp only[Bool.false_eq_true,↓reduceIte]
 refine c_exit Way.calmly rfl ?_
 refine c_end (J:=fun n g=>Way Try.prog s n 0 false g) Way.calmly ?_
 exact done_way _ _
theorem born_step (s r:Nat) (w:World):stepG Try.prog false (born Try.prog (dcall 63 #[.pointer (some ⟨s,0,none⟩),.pointer (some ⟨r,0,none⟩)])) w=
 .go (G (b63.at ⟨#[.pointer (some ⟨s,0,none⟩),.pointer (some ⟨r,0,none⟩),undef,undef,undef,undef,undef,undef,undef,undef,undef,undef,undef,undef,undef,undef,undef,undef,undef,undef,undef,undef,undef,undef,undef,undef,undef,undef,undef,undef,undef,undef,undef,undef],[]⟩ [.code body63]) [bot]) w #[]:=by
 simp[born,dcall,stepG,unwind,callDeferred,invoke,callFunc,Try.func63,Try.f63,seen,GStep.after,G,Frame.enter,Frame.at,b63,baseD,bot,body63]
theorem l_at {K:World→Prop} {Still:Loc→Prop} {B s:Nat} {x:Wk} (Jp Je Jf Jm J3 Jo Ji Jj Jy J1 Jn Ju Ja Jr Jw Jc Jz Jx J2 J0 Js Jq Jg Jt Jl J4 Jb Jd Jh Jv Jk:Value):AtIn Try.prog false K Still B (κL.seat s x) (RL s x Jp Je Jf Jm J3 Jo Ji Jj Jy J1 Jn Ju Ja Jr Jw Jc Jz Jx J2 J0 Js Jq Jg Jt Jl J4 Jb Jd Jh Jv Jk) (RL s x Jp Je Jf Jm J3 Jo Ji Jj Jy J1 Jn Ju Ja Jr Jw Jc Jz Jx J2 J0 Js Jq Jg Jt Jl J4 Jb Jd Jh Jv Jk):=by
 have hh:(κL.seat s x).home (RL s x Jp Je Jf Jm J3 Jo Ji Jj Jy J1 Jn Ju Ja Jr Jw Jc Jz Jx J2 J0 Js Jq Jg Jt Jl J4 Jb Jd Jh Jv Jk):=⟨_,_,_,_,_,_,_,_,_,_,_,_,_,_,_,_,_,_,_,_,_,_,_,_,_,_,_,_,_,_,_,rfl⟩
 revert hh
 unfold RL
 simp only[todoL,lb,body63,Try.f63,Option.getD_some,sndC,fstC,inC,opsC]
 intro hh
 exact atIn_of (s:=κL.seat s x) rfl rfl (by decide) (fun w=>by simp[go_sem,execOp,rcase,Act.eval,Kit.seat,Seat.one,κL,ztask]) (fun w=>by simp[go_sem,execOp,Act.eval]) hh
theorem l_birth {K:World→Prop} {Still:Loc→Prop} {B s:Nat} {x:Wk} (hK:∀w,K w→w.cell? ⟨x.r,11,none⟩=some (.chan (some x.ct))) (hS:Still (.cell ⟨x.r,11,none⟩)) (hB:x.r<B):
 ∃n,Sits Try.prog false K Still B (κL.seat s x) n (born Try.prog (dcall 63 #[.pointer (some ⟨s,0,none⟩),.pointer (some ⟨x.r,0,none⟩)])):=by
 refine⟨31,sits_of fun w₀=>Goes.step rfl fun w₁ h₁=> ?_⟩
 rw[born_step]
 refine⟨ds_none _, ?_⟩
 refine(?_:∀w,Goes Try.prog false (RK K) (DS Still B) (fun g _=> ∃g₂,AtIn Try.prog false K Still B (κL.seat s x) g g₂) 29 _ w) w₁
 have hJ:Calmly Try.prog false (fun n g=> ∀w,Goes Try.prog false (RK K) (DS Still B) (fun g _=> ∃g₂,AtIn Try.prog false K Still B (κL.seat s x) g g₂) n g w):=goes_calmly
 simp only[body63,Try.f63,Option.getD_some]
 refine c_seq (J:=fun n g=> ∀w,Goes Try.prog false (RK K) (DS Still B) (fun g _=> ∃g₂,AtIn Try.prog false K Still B (κL.seat s x) g g₂) n g w) hJ ?_
 refine c_region hJ [0,1,2,3] rfl ?_
 refine c_value hJ (.pointer (some ⟨s,0,none⟩)) rfl rfl (by decide) (fun _=>by go_simp;try (first|decide|assumption|(simp only[*];done)|simp[*])) (fun _=>by simp[go_sem, *]) ?_
 walk_nrm
 refine c_value hJ (.pointer (some ⟨s,0,none⟩)) rfl rfl (by decide) (fun _=>by go_simp;try (first|decide|assumption|(simp only[*];done)|simp[*])) (fun _=>by simp[go_sem, *]) ?_
 walk_nrm
 refine c_value hJ (.pointer (some ⟨s,5,none⟩)) rfl rfl (by decide) (fun _=>by go_simp;try (first|decide|assumption|(simp only[*];done)|simp[*])) (fun _=>by simp[go_sem, *]) ?_
 walk_nrm
 refine c_defer hJ rfl rfl (by decide) rfl ?_
 walk_nrm
 refine c_region_end hJ ?_
 refine c_seq (J:=fun n g=> ∀w,Goes Try.prog false (RK K) (DS Still B) (fun g _=> ∃g₂,AtIn Try.prog false K Still B (κL.seat s x) g g₂) n g w) hJ ?_
 refine c_region hJ [0,1,2,3] rfl ?_
 refine c_value hJ (.pointer (some ⟨x.r,0,none⟩)) rfl rfl (by decide) (fun _=>by go_simp;try (first|decide|assumption|(simp only[*];done)|simp[*])) (fun _=>by simp[go_sem, *]) ?_
 walk_nrm
 refine c_value hJ (.pointer (some ⟨x.r,0,none⟩)) rfl rfl (by decide) (fun _=>by go_simp;try (first|decide|assumption|(simp only[*];done)|simp[*])) (fun _=>by simp[go_sem, *]) ?_
 walk_nrm
 refine c_value hJ (.pointer (some ⟨x.r,11,none⟩)) rfl rfl (by decide) (fun _=>by go_simp;try (first|decide|assumption|(simp only[*];done)|simp[*])) (fun _=>by simp[go_sem, *]) ?_
 walk_nrm
 refine goes_read (.chan (some x.ct)) ⟨x.r,11,none⟩ rfl rfl (by decide) (fun w hw=>by have:=hK w hw;go_simp) (fun w hw=>by have:=hK w hw;simp[go_sem,execOp,Act.eval,this]) hS hB ?_
 walk_nrm
 refine c_region_end hJ ?_
 refine c_block (J:=fun n g=> ∀w,Goes Try.prog false (RK K) (DS Still B) (fun g _=> ∃g₂,AtIn Try.prog false K Still B (κL.seat s x) g g₂) n g w) hJ ?_
 refine c_loop (J:=fun n g=> ∀w,Goes Try.prog false (RK K) (DS Still B) (fun g _=> ∃g₂,AtIn Try.prog false K Still B (κL.seat s x) g g₂) n g w) hJ ?_
 refine c_seq (J:=fun n g=> ∀w,Goes Try.prog false (RK K) (DS Still B) (fun g _=> ∃g₂,AtIn Try.prog false K Still B (κL.seat s x) g g₂) n g w) hJ ?_
 refine c_region hJ [0,1] rfl ?_
 exact fun w=>Goes.stop (fun _ _=>⟨_,l_at _ _ _ _ _ _ _ _ _ _ _ _ _ _ _ _ _ _ _ _ _ _ _ _ _ _ _ _ _ _ _⟩)
end Co
end Go.Proofs.Ytlngbdggehghgaa
