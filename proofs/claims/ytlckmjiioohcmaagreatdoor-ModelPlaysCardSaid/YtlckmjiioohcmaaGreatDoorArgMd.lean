/-
  No statement is proved here: venues, states, operations and numbers among the arguments of the laws, opened; what the pinned table says. Conditions: none.
-/
import Derived.Test.YtlckmjiioohcmaaGreatDoorMdY
import Derived.Test.YtlckmjiioohcmaaGreatDoorLib
import Derived.Test.YtlckmjiioohcmaaGreatDoorRows
import Derived.Deep.Strs
import Derived.LaidMore
import Derived.MakeChecks
namespace Go.Proofs.YtlckmjiioohcmaaGreatDoor
open Go.RowKit Go.ChangeShapes Go.WideShapes Go.ChangeAt Go.Joins
theorem Tryz.own:ownKnob Tryz.prog.godebug=none:=by kernel_rfl
theorem Tryz.laidOut:laidOutB Tryz.prog=true:=by kernel_rfl
theorem uses_at {W:World} (h:laidMetH Tryz.prog [("unicode/utf8.acceptRanges",Rows.laid_unicode_utf8_acceptRanges),("groundling/plans.uses",Rows.laid_groundling_plans_uses),("unicode/utf8.first",Rows.laid_unicode_utf8_first)] W):UsesAt W:=by
 rw[MakeChecks.laidMetH_plain _ _ _ (by kernel_rfl)] at h
 obtain⟨ps,⟨g1,t1,cs1,fuel1,p1,q1,_,_,_,_,⟨g,t,cs,fuel,p,q,hg,ht,hv,hd,_,_⟩,_⟩,_,_⟩:=h
 obtain rfl:=Option.some.inj ((show Tryz.prog.globalNamed "groundling/plans.uses"=some 0 by kernel_rfl).symm.trans hg)
 obtain rfl:=Option.some.inj ((show(Tryz.prog.globals[0]?).map (·.type)=some 159 by kernel_rfl).symm.trans ht)
 obtain⟨xs,m,_,ex,_,hl,hel⟩:=DataW.trod_array Tryz.underlying159 hd
 have c5:Tryz.prog.cellsOf 3=1:=by kernel_rfl
 have e3:(xs.map (·.1))=usesL.map fun n=>(.lit (.int .i64 n):DataW Unit):=(DataW.agg.inj (Prod.mk.inj ex).1).symm
 have hcell:∀(k:Nat) (u:Int),usesL[k]?=some u→W.cell? ⟨0,k,none⟩=some (.int .i64 u):=fun k u hk=>by
  have hk':k<13:=by
   have:=(List.getElem?_eq_some_iff.1 hk).1
   simpa[usesL] using this
  have hE:=hel k hk'
  rw[c5,Nat.mul_one,List.getElem?_eq_getElem (by omega)] at hE
  obtain⟨z,e1,e2,_⟩:=DataW.trod_int Tryz.underlying3 hE
  have e4:(xs.map (·.1))[k]?=(usesL.map fun n=>(DataW.lit (.int .i64 n):DataW Unit))[k]?:=by rw[e3]
  rw[List.getElem?_map,List.getElem?_map,List.getElem?_eq_getElem (by omega:k<xs.length),hk,e2] at e4
  simp only[Option.map_some,Option.some.injEq,DataW.lit.injEq,Lit.int.injEq,true_and] at e4
  subst e4
  rw[World.var?_cell hg hv k]
  have:cs.toList[k]?=some (.int .i64 z):=by
   have h0:((cs.toList.drop k).take 1)[0]?=some (.int .i64 z):=by rw[e1];rfl
   simpa using h0
  simpa using this
 exact⟨World.block_lt_of_cell? _ _ (hcell 0 0 rfl),hcell⟩
theorem bd_of_wf {x:Int} (h:(Lit.int .i64 x).wf=true):Bd x:=by
 simp[Lit.wf,IntKind.min,IntKind.max,IntKind.signed,IntKind.bits] at h
 exact⟨by omega,by omega⟩
theorem u32_of_wf {x:Int} (h:(Lit.int .u32 x).wf=true):U32 x:=by
 simp[Lit.wf,IntKind.min,IntKind.max,IntKind.signed,IntKind.bits] at h
 exact⟨by omega,by omega⟩
theorem u64_of_wf {x:Int} (h:(Lit.int .u64 x).wf=true):U64 x:=by
 simp[Lit.wf,IntKind.min,IntKind.max,IntKind.signed,IntKind.bits] at h
 exact⟨by omega,by omega⟩
section
variable {H:Type} {enc:TypeId×Value→H} {P:Program}
theorem field_in {W:World} {t:TypeId} {fs:Array Field} {n:Nat} {cs:List Value} {y:DataW H×List MemPlace} (ht:P.underlying t=some (.struct fs)) (h:DataW.trod enc P W 0 (fun _=>true) true n t cs=some y) (i:Nat) (u:TypeId) (o k:Nat) (hf:(fs[i]?).map (fun f=>(f.type,f.offset))=some (u,o)) (hk:P.cellsOf u=k):
 ∃m z,DataW.trod enc P W 0 (fun _=>true) true m u ((cs.drop o).take k)=some z:=by
 cases hi:fs[i]? with
 |none=>rw[hi] at hf;cases hf
 |some f=>
  rw[hi] at hf
  simp only[Option.map_some,Option.some.injEq,Prod.mk.injEq] at hf
  obtain⟨rfl,rfl⟩:=hf
  subst hk
  exact trod_field ht h i hi
end
section
variable {H:Type} {enc:TypeId×Value→H}
theorem u_int {W:World} {n:Nat} {k:IntKind} {t:TypeId} {v:Value} {y:DataW H×List MemPlace} (ht:Tryz.prog.underlying t=some (.int k)) (h:DataW.trod enc Tryz.prog W 0 (fun _=>true) true n t [v]=some y):∃x,v=.int k x∧(Lit.int k x).wf=true:=by
 obtain⟨x,e,_,hw⟩:=DataW.trod_int ht h
 simp at e
 exact⟨x,e,hw⟩
set_option maxRecDepth 20000 in
theorem ints_in {W:World} {n:Nat} {v:Value} {y:DataW H×List MemPlace} (h:DataW.trod enc Tryz.prog W 0 (fun _=>true) true n 65 [v]=some y):∃xs,Sl intR W v xs:=by
 refine sl_in intR Tryz.underlying65 (by kernel_rfl) (by decide) (fun n cs y hlen htr=> ?_) h
 match cs,hlen with
 |[c0],_=>
  obtain⟨x,rfl,hw⟩:=u_int Tryz.underlying3 htr
  exact⟨x,rfl,bd_of_wf hw⟩
set_option maxRecDepth 20000 in
theorem secs_in {W:World} {n:Nat} {v:Value} {y:DataW H×List MemPlace} (h:DataW.trod enc Tryz.prog W 0 (fun _=>true) true n 22 [v]=some y):∃xs,Sl secR W v xs:=by
 refine sl_in secR Tryz.underlying22 (by kernel_rfl) (by decide) (fun n cs y hlen htr=> ?_) h
 match cs,hlen with
 |[c0,c1,c2],_=>
  obtain⟨_,_,h0⟩:=field_in Tryz.underlying76 htr 0 9 0 1 rfl (by kernel_rfl)
  obtain⟨_,_,h1⟩:=field_in Tryz.underlying76 htr 1 65 1 1 rfl (by kernel_rfl)
  obtain⟨_,_,h2⟩:=field_in Tryz.underlying76 htr 2 3 2 1 rfl (by kernel_rfl)
  simp only[List.drop_succ_cons,List.drop_zero,List.take_succ_cons,List.take_zero] at h0 h1 h2
  obtain⟨s,e,_,hsz⟩:=DataW.trod_string Tryz.underlying9 h0
  simp at e
  subst e
  obtain⟨rows,hr⟩:=ints_in h1
  obtain⟨x,rfl,hw⟩:=u_int Tryz.underlying3 h2
  obtain⟨A,c,rfl,_,_,hr⟩:=hr.open
  exact⟨⟨s,rows,x⟩,A,c,rfl,hr,bd_of_wf hw,hsz⟩
set_option maxRecDepth 20000 in
theorem ve_open {W:World} {b0:Nat} {v:Value} {d:DataW H} {p:List MemPlace} (hok:Value.okWide Tryz.prog W .any b0 24 v) (h:DataW.Trod enc Tryz.prog W 0 (fun _=>true) true 24 v d p):
 ∃x:Ve,∃V vc,v=.agg #[.int .i64 x.shards,.int .i64 x.ttl,.int .i64 x.session,.slice V x.secs.length vc]∧Sl secR W (.slice V x.secs.length vc) x.secs∧Bd x.shards∧Bd x.ttl∧Bd x.session:=by
 obtain⟨v0,v1,v2,v3,y0,y1,y2,y3,n,rfl,_,_,h0,h1,h2,h3⟩:=open_agg4 Tryz.underlying24 (by kernel_rfl) (by kernel_rfl) hok h
 obtain⟨x0,rfl,w0⟩:=u_int Tryz.underlying3 h0
 obtain⟨x1,rfl,w1⟩:=u_int Tryz.underlying2 h1
 obtain⟨x2,rfl,w2⟩:=u_int Tryz.underlying2 h2
 obtain⟨xs,hs⟩:=secs_in h3
 obtain⟨A,c,rfl,_,_,hs⟩:=hs.open
 exact⟨⟨x0,x1,x2,xs⟩,A,c,rfl,hs,bd_of_wf w0,bd_of_wf w1,bd_of_wf w2⟩
set_option maxRecDepth 20000 in
theorem tk_in {W:World} {n:Nat} {c0 c1 c2 c3:Value} {y:DataW H×List MemPlace} (h:DataW.trod enc Tryz.prog W 0 (fun _=>true) true n 44 [c0,c1,c2,c3]=some y):∃t:Tk,[c0,c1,c2,c3]=[.int .u32 t.seat,.int .u32 t.owner,.int .u64 t.serial,.int .u64 t.epoch]∧TkOk t:=by
 obtain⟨_,_,h0⟩:=field_in Tryz.underlying44 h 0 41 0 1 rfl (by kernel_rfl)
 obtain⟨_,_,h1⟩:=field_in Tryz.underlying44 h 1 41 1 1 rfl (by kernel_rfl)
 obtain⟨_,_,h2⟩:=field_in Tryz.underlying44 h 2 42 2 1 rfl (by kernel_rfl)
 obtain⟨_,_,h3⟩:=field_in Tryz.underlying44 h 3 42 3 1 rfl (by kernel_rfl)
 simp only[List.drop_succ_cons,List.drop_zero,List.take_succ_cons,List.take_zero] at h0 h1 h2 h3
 obtain⟨x0,rfl,w0⟩:=u_int Tryz.underlying41 h0
 obtain⟨x1,rfl,w1⟩:=u_int Tryz.underlying41 h1
 obtain⟨x2,rfl,w2⟩:=u_int Tryz.underlying42 h2
 obtain⟨x3,rfl,w3⟩:=u_int Tryz.underlying42 h3
 exact⟨⟨x0,x1,x2,x3⟩,rfl,u32_of_wf w0,u32_of_wf w1,u64_of_wf w2,u64_of_wf w3⟩
set_option maxRecDepth 20000 in
theorem op_in {W:World} {n:Nat} {c0 c1 c2 c3 c4 c5 c6 c7 c8 c9 c10 c11:Value} {y:DataW H×List MemPlace} (h:DataW.trod enc Tryz.prog W 0 (fun _=>true) true n 46 [c0,c1,c2,c3,c4,c5,c6,c7,c8,c9,c10,c11]=some y):∃o:MOp,[c0,c1,c2,c3,c4,c5,c6,c7,c8,c9,c10,c11]=opCells o∧OpOk o:=by
 obtain⟨_,_,h0⟩:=field_in Tryz.underlying46 h 0 3 0 1 rfl (by kernel_rfl)
 obtain⟨_,_,h1⟩:=field_in Tryz.underlying46 h 1 41 1 1 rfl (by kernel_rfl)
 obtain⟨_,_,h2⟩:=field_in Tryz.underlying46 h 2 2 2 1 rfl (by kernel_rfl)
 obtain⟨_,_,h3⟩:=field_in Tryz.underlying46 h 3 3 3 1 rfl (by kernel_rfl)
 obtain⟨_,_,h4⟩:=field_in Tryz.underlying46 h 4 3 4 1 rfl (by kernel_rfl)
 obtain⟨_,_,h5⟩:=field_in Tryz.underlying46 h 5 3 5 1 rfl (by kernel_rfl)
 obtain⟨_,_,h6⟩:=field_in Tryz.underlying46 h 6 41 6 1 rfl (by kernel_rfl)
 obtain⟨_,_,h7⟩:=field_in Tryz.underlying46 h 7 44 7 4 rfl (by kernel_rfl)
 obtain⟨_,_,h8⟩:=field_in Tryz.underlying46 h 8 2 11 1 rfl (by kernel_rfl)
 simp only[List.drop_succ_cons,List.drop_zero,List.take_succ_cons,List.take_zero] at h0 h1 h2 h3 h4 h5 h6 h7 h8
 obtain⟨x0,rfl,w0⟩:=u_int Tryz.underlying3 h0
 obtain⟨x1,rfl,w1⟩:=u_int Tryz.underlying41 h1
 obtain⟨x2,rfl,w2⟩:=u_int Tryz.underlying2 h2
 obtain⟨x3,rfl,w3⟩:=u_int Tryz.underlying3 h3
 obtain⟨x4,rfl,w4⟩:=u_int Tryz.underlying3 h4
 obtain⟨x5,rfl,w5⟩:=u_int Tryz.underlying3 h5
 obtain⟨x6,rfl,w6⟩:=u_int Tryz.underlying41 h6
 obtain⟨t,he,ht⟩:=tk_in h7
 simp only[List.cons.injEq,and_true] at he
 obtain⟨rfl,rfl,rfl,rfl⟩:=he
 obtain⟨x8,rfl,w8⟩:=u_int Tryz.underlying2 h8
 exact⟨⟨x0,x1,x2,x3,x4,x5,x6,t,x8⟩,rfl,bd_of_wf w0,u32_of_wf w1,bd_of_wf w2,bd_of_wf w3,bd_of_wf w4,bd_of_wf w5,u32_of_wf w6,ht,bd_of_wf w8⟩
set_option maxRecDepth 20000 in
theorem ops_open {W:World} {b0:Nat} {v:Value} {d:DataW H} {p:List MemPlace} (hok:Value.okWide Tryz.prog W .any b0 25 v) (h:DataW.Trod enc Tryz.prog W 0 (fun _=>true) true 25 v d p):∃xs:List MOp,Sl opR W v xs:=by
 obtain⟨fuel,h⟩:=h
 obtain⟨A,l,c,rfl⟩:=okWide_slice Tryz.underlying25 hok
 refine sl_in opR Tryz.underlying25 (by kernel_rfl) (by decide) (fun n cs y hlen htr=> ?_) (n:=fuel) (y:=(d,p)) (by simpa[Value.cells] using h)
 match cs,hlen with
 |[c0,c1,c2,c3,c4,c5,c6,c7,c8,c9,c10,c11],_=>
  obtain⟨o,he,ho⟩:=op_in htr
  exact⟨o,he,ho⟩
end
end Go.Proofs.YtlckmjiioohcmaaGreatDoor
