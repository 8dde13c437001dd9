/-
  From a law's walk in company to its row: it returned true, nobody is left but those who only leave, and nothing old has turned. Conditions: as each theorem says.
-/
import Derived.Test.YtlngbdggehghgaaCxX
import Derived.Conc.LeavingOf
namespace Go.Proofs.Ytlngbdggehghgaa
set_option linter.unusedSimpArgs false
set_option linter.unusedVariables false
namespace Co
open Go.Conc Go.RowKit
theorem stepG_top {P:Program} {b:Frame} {a:Act} {todo:List Item} {fn:Func} {x:Value} {w:World} (hn:b.kind=.normal) (hd:a.defers=[]) (hf:P.funcs[b.fn]?=some fn)
 (hr:(results fn a.tmps).run P w=.ok x w) (he:(results fn a.tmps).events P w #[]=#[]) (hi:P.inits.idxOf? b.fn=none):stepG P true (G {b.at a todo with mode:=.returning} []) w=.ended (.done x) w #[]:=by
 simp[G,stepG,unwind,doReturn,Frame.at,hn,hd,hf,hr,he,hi,seen,GStep.after]
theorem try_own:ownKnob Try.prog.godebug=none:=by kernel_rfl
theorem try_laidOut:laidOutB Try.prog=true:=by kernel_rfl
def Fin (Z:Goal) (v0:World):Prop:=∀(a:Goroutine) (g':Gh) (v':World),a.status=.running→(∀w,stepG Try.prog true a w=.ended (.done (.bool true)) w #[])→Lone g'→Chg (fun _=>False) v0 v'→Co Try.prog Z 0 (g'.fx Try.prog κL 0) a v'
theorem fin_leave {Z:Goal} {v0 v':World} {g':Gh} {b:Frame} {a:Act} {todo:List Item} {fn:Func} (hF:Fin Z v0) (L:Lone g') (hc:Chg (fun _=>False) v0 v') (hn:b.kind=.normal) (hd:a.defers=[]) (hf:Try.prog.funcs[b.fn]?=some fn)
 (hr:∀w,(results fn a.tmps).run Try.prog w=.ok (.bool true) w) (he:∀w,(results fn a.tmps).events Try.prog w #[]=#[]) (hi:Try.prog.inits.idxOf? b.fn=none):Co Try.prog Z 0 (g'.fx Try.prog κL 0) (G {b.at a todo with mode:=.returning} []) v':=
 hF _ g' v' rfl (fun w=>stepG_top hn hd hf (hr w) (he w) hi) L hc
def LawCo (f:FuncId) (args:Array Value) (v0:World):Prop:=∀(Z:Goal) (g:Gh),Z.Ok Try.prog→Lone g→Fin Z v0→Co Try.prog Z 0 (g.fx Try.prog κL 0) (G (Frame.enter Try.prog f args .normal) []) v0
theorem old_stands {W w v':World} {H:Nat→Option Nat} (hv:Vis H w v') (ho:OldOk W.heap H w) (hc:Chg (fun _=>False) (seen0 W) v'):w.os=W.os∧w.output=W.output∧W.heap.size≤w.heap.size∧∀k,k<W.heap.size→w.heap[k]?=W.heap[k]?:=by
 refine⟨hv.os.symm.trans hc.os,hv.output.symm.trans hc.output,ho.size,fun k hk=> ?_⟩
 have hko:W.heap[k]?=some W.heap[k]:=Array.getElem?_eq_getElem hk
 cases hp:plainO W.heap[k] with
 |false=>rw[(ho.odd k _ hko hp).2,hko]
 |true=>
  have h1:=ho.plain k _ hko hp
  have h2:v'.heap[k]?=w.heap[k]?:=by rw[hv.heap,vis_get,h1,map_see_none]
  have hz:(seen0 W).heap.size=W.heap.size:=vis_size _ _
  have h3:v'.heap[k]?=(seen0 W).heap[k]?:=hc.block k (by rw[hz];exact hk) id
  have h4:(seen0 W).heap[k]?=W.heap[k]?:=by
   show(vis (hidOf (odds W.heap)) W.heap)[k]?=_
   have:hidOf (odds W.heap) k=none:=by
    cases hh:hidOf (odds W.heap) k with
    |none=>rfl
    |some n=>
     obtain⟨_,o2,h5,h6⟩:=odds_some hh
     rw[hko] at h5
     cases h5
     rw[hp] at h6
     cases h6
   rw[vis_get,this,map_see_none]
  rw[←h2,h3,h4]
theorem law_runs {f:FuncId} {args:Array Value} {W:World} {Post:Value→World→Prop} (h:LawCo f args (seen0 W)) (hp:∀w,w.os=W.os∧w.output=W.output∧W.heap.size≤w.heap.size∧(∀k,k<W.heap.size→w.heap[k]?=W.heap[k]?)→Post (.bool true) w):
 ∃M last o w' t',runNT Try.prog (M+1) (solo (G (Frame.enter Try.prog f args .normal) []) W) #[]=(.ended o w',t')∧runN Try.prog M (solo (G (Frame.enter Try.prog f args .normal) []) W)=.next last∧step Try.prog last=.ended o w'∧Go.Conc.Good Try.prog Post last o w' t':=
 co_begin (Z:=ends Try.prog W.heap Post) rfl (h (ends Try.prog W.heap Post) _ ends_ok (Lone.zero _) fun _ _ _ hrun hst L hc=>co_last κL_ok L.ok L.rs L.m0 L.ear hrun hst fun w hv ho=>hp w (old_stands hv ho hc))
variable {H:Type} {enc:TypeId×Value→H}
theorem law_post2 {f:Func} {s:ChangeSpec} {apart:Bool} {W w:World} {args:Array Value} {ds gs:List (DataW H)} {before:List MemPlace} {tb:TypeId} (hl:laidOutB Try.prog=true)
 (hr:rowed Try.prog f.params.toList=true) (hres:f.resultTypes=#[tb]) (hub:Try.prog.underlying tb=some .bool) (hv:s.vars=[]) (hfn:s.fn H ds={results:=[.lit (.bool true)],args:=ds})
 (hW:DataW.Whole enc Try.prog f.params.toList s.vars apart W args.toList ds gs before) (hb:w.os=W.os∧w.output=W.output∧W.heap.size≤w.heap.size∧(∀k,k<W.heap.size→w.heap[k]?=W.heap[k]?)):s.post enc Try.prog f apart true false false W args (.bool true) w:=by
 have hB:Below W.heap.size W {w with tape:=W.tape}:=⟨hb.1,rfl,hb.2.1,hb.2.2.1,hb.2.2.2⟩
 obtain⟨ds',gs',before',pr,pa,pv,h1,h2,h3,h4,h5,_⟩:=law_post (P:=Try.prog) hl hr hres hub hv hfn hW hB
 exact⟨ds',gs',before',pr,pa,pv,h1,h2.of_heap (by rfl),h3.of_heap (by rfl),h4.of_heap (by rfl),h5,fun h=>by cases h⟩
set_option maxRecDepth 100000 in
theorem law_leaving {os:Os} {f:FuncId} {fn:Func} {s:ChangeSpec} {conds:List PathCond} {apart:Bool} {tb:TypeId} (started:os.Started) (hfn:Try.prog.funcs[f]?=some fn)
 (witness:∃(w:World) (tape:Tape) (i:Input),w.os=os∧(w.forCall tape i).Shaped Try.prog∧i.vars=[]∧Input.okWide Try.prog (w.forCall tape i) .any w.heap.size f i∧
  s.pre6 enc Try.prog fn conds apart (w.forCall tape i).memory i.args∧({}:Assume).holds Try.prog (lone (Frame.enter Try.prog f i.args .normal) [] (w.forCall tape i)))
 (hr:rowed Try.prog fn.params.toList=true) (hres:fn.resultTypes=#[tb]) (hub:Try.prog.underlying tb=some .bool) (hv:s.vars=[]) (hs:∀ds,ds.length=fn.params.size→s.fn H ds={results:=[.lit (.bool true)],args:=ds})
 (walk:∀(W:World) (base:Nat) (args:Array Value) (ds gs:List (DataW H)) (before:List MemPlace),
  (∀(j:Nat) t v,fn.params[j]?=some t→args[j]?=some v→Value.okWide Try.prog W .any base t v)→
  DataW.Whole enc Try.prog fn.params.toList s.vars apart W args.toList ds gs before→ds.length=fn.params.size∧LawCo f args (seen0 W)):
 ReturnsInLeavingWide {} Try.checked os f .any (s.pre6 enc Try.prog fn conds apart) (s.post enc Try.prog fn apart true false false):=
 returnsInLeavingWide_of_change_sized (C:=Try.checked) try_own started hfn witness fun W base args ds gs before hval hW _ _ _=>
  let⟨hd,hw⟩:=walk W base args ds gs before hval hW
  law_runs hw fun _ hb=>law_post2 try_laidOut hr hres hub hv (hs ds hd) hW hb
end Co
end Go.Proofs.Ytlngbdggehghgaa
