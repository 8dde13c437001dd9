/-
  Regions that draw, over a frame of which some slots alone are known. Conditions: as each theorem says.
-/
import Derived.Test.YtlngbdggehghgaaScK
import Derived.Great.BuildSlice
namespace Go.Proofs.Ytlngbdggehghgaa
set_option linter.unusedSimpArgs false
set_option linter.unusedVariables false
open Go.RowKit
structure EvA (b:Act) (n:Nat) (l:List (Nat×Value)):Prop where
 size:b.tmps.size=n
 df:b.defers=[]
 ev:∀i v,(i,v)∈l→b.eval (.tmp i)=v
theorem EvA.put {b:Act} {n:Nat} {l:List (Nat×Value)} (h:EvA b n l) (i:Nat) (v:Value) (hi:i<n) (hl:(l.all fun p=>p.1 !=i)=true):EvA (b.put (some i) v) n ((i,v)::l):=by
 refine⟨by simp[Act.put,h.size],by simp[Act.put,h.df],fun j u hj=> ?_⟩
 rcases List.mem_cons.1 hj with hj|hj
 ·cases hj
  simp[Act.eval,Act.put,h.size,hi]
 ·have hne:j≠i:=by simpa using List.all_eq_true.1 hl _ hj
  have:=h.ev j u hj
  simpa[Act.eval,Act.put,Array.getElem?_setIfInBounds,Ne.symm hne] using this
theorem EvA.at {b:Act} {n i:Nat} {v:Value} {l:List (Nat×Value)} (h:EvA b n l) (k:Nat) (hk:l[k]?=some (i,v)):b.eval (.tmp i)=v:=h.ev i v (List.mem_of_getElem? hk)
theorem EvA.pick {b:Act} {n:Nat} {l m:List (Nat×Value)} (h:EvA b n l) (ks:List Nat) (hm:(ks.map fun k=>l[k]?)=m.map some):EvA b n m:=by
 refine⟨h.size,h.df,fun i v hv=> ?_⟩
 have h1:some (i,v)∈m.map some:=List.mem_map.2 ⟨_,hv,rfl⟩
 rw[←hm] at h1
 obtain⟨k,_,hk⟩:=List.mem_map.1 h1
 exact h.ev i v (List.mem_of_getElem? hk)
theorem EvA.none {b:Act} {n:Nat} {l:List (Nat×Value)} (h:EvA b n l) (v:Value):EvA (b.put none v) n l:=⟨h.size,h.df,h.ev⟩
theorem EvA.form {b:Act} {n:Nat} {l:List (Nat×Value)} (h:EvA b n l):b=⟨((List.range n).map fun i=>b.eval (.tmp i)).toArray,[]⟩:=by
 obtain⟨t,d⟩:=b
 have h1:=h.size
 have h2:=h.df
 simp only at h1 h2
 subst h2
 congr
 apply Array.ext
 ·simp[h1]
 ·intro i hi1 hi2
  simp[Act.eval,hi1]
theorem wp_region_ops {P:Program} {id:Nat} {ops ops':Array Oper} {d:Bool} {Q:Exit→Act→World→Prop} {a:Act} {w:World} (h:ops=ops') (hw:(Code.region id ops' d).wp P Q a w):(Code.region id ops d).wp P Q a w:=by subst h;exact hw
section
variable {P:Program} {ops:Array Oper} {Q:Exit→Act→World→Prop} {md:Region.Mode} {late:Nat→Bool} {S S1:World→Prop}
theorem yieldsE {o:Oper} {a:Act} {v:Value} {n:Nat} {l:List (Nat×Value)} {s:Nat} {p:Value} (E:EvA a n l) (k:Nat) (hk:l[k]?=some (s,p)) (hw:Region.wanted o (yielded ops a.tmps)=true) (hrun:∀f:Operand→Value,f (.tmp s)=p→∀w,S w→(execOp f o).run P w=.ok (.value v) w):YieldsIf P ops S o v a:=
 .inl ⟨hw,fun w hS=>hrun _ (E.at k hk) w hS⟩
theorem takeA {i d:Nat} {oi:Oper} {v:Value} {fuel n:Nat} {listed:Array Bool} {a:Act} {w:World} {l:List (Nat×Value)} (E:EvA a n l) (hi:ops[i]?=some oi) (hd:oi.dst=some d) (hdn:d<n) (hdl:(l.all fun p=>p.1 !=d)=true)
 (hs:Region.noSelect ops=true) (hf:Region.free md ops listed i=true) (hr:(Region.ready md ops listed).contains i=true) (hL:late i=false)
 (hQ:∀c a w,Q (.panic c) (a.put (some d) v) w→Q (.panic c) a w) (hy:YieldsIf P ops S oi v a) (hS:S w) (hS1:NoLate late listed→S1 w)
 (h:∀b,EvA b n ((d,v)::l)→wpAnyT P md ops Q late S S1 fuel (listed.setIfInBounds i true) b w):wpAnyT P md ops Q late S S1 (fuel+1) listed a w:=
 wpAnyT_take hi hs hf hr hL (by rw[hd];exact hQ) hy hS hS1 (by rw[hd];exact h _ (E.put d v hdn hdl))
theorem loadA {i d:Nat} {oi:Oper} {v:Value} {fuel n:Nat} {listed:Array Bool} {a:Act} {w:World} {l:List (Nat×Value)} (E:EvA a n l) (hi:ops[i]?=some oi) (hd:oi.dst=some d) (hdn:d<n) (hdl:(l.all fun p=>p.1 !=d)=true)
 (hs:Region.noSelect ops=true) (hf:Region.free md ops listed i=true) (hr:(Region.ready md ops listed).contains i=true) (hL:late i=false) (hL1:late1B md ops late i=true) (hn:(List.range ops.size).all (fun j=> !late j|| !listed.getD j false)=true) (hsz:listed.size=ops.size)
 (hQ:∀c a w,Q (.panic c) (a.put (some d) v) w→Q (.panic c) a w) (hy:YieldsIf P ops (fun w=>S w∧S1 w) oi v a) (hS:S w) (hS1:S1 w)
 (h:∀b,EvA b n ((d,v)::l)→wpAnyT P md ops Q late S S1 fuel (listed.setIfInBounds i true) b w):wpAnyT P md ops Q late S S1 (fuel+1) listed a w:=
 wpAnyT_load hi hs hf hr hL hL1 hn hsz (by rw[hd];exact hQ) hy hS hS1 (by rw[hd];exact h _ (E.put d v hdn hdl))
theorem wpAnyT_at {a:Act} {n fuel:Nat} {l:List (Nat×Value)} {listed:Array Bool} {w:World} (E:EvA a n l) (h:∀b,EvA b n l→wpAnyT P md ops Q late S S1 fuel listed b w):wpAnyT P md ops Q late S S1 fuel listed a w:=h a E
theorem wpList_store_atA {rest:List Oper} {o:Oper} {a:Act} {w:World} (hgd:o.guard=none) (ty:TypeId) (x y:Operand) (ho:o.op=.store ty x y) (hd:o.dst=none)
 (g f:Nat) (v:Value) (hx:a.eval x=.pointer (some ⟨g,f,none⟩)) (hy:a.eval y=v) (hrun:(Instr.storeAt ty (.pointer (some ⟨g,f,none⟩)) v).run P w=.ok () (w.setCell ⟨g,f,none⟩ v))
 (h:wpList P ops Q rest a (w.setCell ⟨g,f,none⟩ v)):wpList P ops Q (o::rest) a w:=
 wpList_plain hgd fun _ hK=>by
  unfold Oper.wp execOp
  simp only[ho,hx,hy,Sem.run_bind,hrun,Result.andThen_ok]
  have:=hK _ _ h
  unfold Oper.upon
  simp only[Sem.run_pure,hd]
  exact this
end
theorem wpList_one_tk {ops:Array Oper} {rest:List Oper} {o:Oper} {a:Act} {w:World} {Q:Exit→Act→World→Prop} (hg:o.guard=none) (y:Operand) (ho:o.op=.buildSlice 69 1 #[(0,y)]) (T:Tk) (hy:a.eval y=.agg T.cells.toArray)
 (h:wpList Try.prog ops Q rest (a.put o.dst (.slice (some ⟨w.heap.size,0,none⟩) 1 1)) (w.alloc (.cells T.cells.toArray 35))):wpList Try.prog ops Q (o::rest) a w:=by
 have hi:=infoK
 cases hie:Try.prog.info? 35 with
 |none=>simp[hie] at hi
 |some ie=>
  rw[hie] at hi
  simp only[Option.map_some,Option.some.injEq,Prod.mk.injEq] at hi
  have hs:ie.size=7:=hi.2.1
  refine wpList_buildSlice hg _ 35 1 _ ho T.cells.toArray ie _ Try.underlying69 hie hi.1 (by rw[hs];decide) (by rw[hs];decide) ?_ h
  rw[hs]
  simp only[List.map_toArray,List.map_cons,List.map_nil,hy]
  kernel_rfl
theorem wpList_one_wa {ops:Array Oper} {rest:List Oper} {o:Oper} {a:Act} {w:World} {Q:Exit→Act→World→Prop} (hg:o.guard=none) (y:Operand) (ho:o.op=.buildSlice 74 1 #[(0,y)]) (T:Wa) (hy:a.eval y=.agg T.cells.toArray)
 (h:wpList Try.prog ops Q rest (a.put o.dst (.slice (some ⟨w.heap.size,0,none⟩) 1 1)) (w.alloc (.cells T.cells.toArray 37))):wpList Try.prog ops Q (o::rest) a w:=by
 have hi:=infoWa
 cases hie:Try.prog.info? 37 with
 |none=>simp[hie] at hi
 |some ie=>
  rw[hie] at hi
  simp only[Option.map_some,Option.some.injEq,Prod.mk.injEq] at hi
  have hs:ie.size=3:=hi.2.1
  refine wpList_buildSlice hg _ 37 1 _ ho T.cells.toArray ie _ Try.underlying74 hie hi.1 (by rw[hs];decide) (by rw[hs];decide) ?_ h
  rw[hs]
  simp only[List.map_toArray,List.map_cons,List.map_nil,hy]
  kernel_rfl
theorem wpList_one_in {ops:Array Oper} {rest:List Oper} {o:Oper} {a:Act} {w:World} {Q:Exit→Act→World→Prop} (hg:o.guard=none) (y:Operand) (ho:o.op=.buildSlice 42 1 #[(0,y)]) (z:Int) (hy:a.eval y=.int .i64 z)
 (h:wpList Try.prog ops Q rest (a.put o.dst (.slice (some ⟨w.heap.size,0,none⟩) 1 1)) (w.alloc (.cells #[.int .i64 z] 3))):wpList Try.prog ops Q (o::rest) a w:=by
 have hi:=infoI
 cases hie:Try.prog.info? 3 with
 |none=>simp[hie] at hi
 |some ie=>
  rw[hie] at hi
  simp only[Option.map_some,Option.some.injEq,Prod.mk.injEq] at hi
  have hs:ie.size=1:=hi.2.1
  refine wpList_buildSlice hg _ 3 1 _ ho #[.int .i64 z] ie _ Try.underlying42 hie hi.1 (by rw[hs];decide) (by rw[hs];decide) ?_ h
  rw[hs]
  simp only[List.map_toArray,List.map_cons,List.map_nil,hy]
  kernel_rfl
end Go.Proofs.Ytlngbdggehghgaa
