/-
  Plans and picks among the arguments, opened. Conditions: none.
-/
import Derived.Test.YtlngbdggehghgaaCyJ
namespace Go.Proofs.Ytlngbdggehghgaa
set_option linter.unusedSimpArgs false
set_option linter.unusedVariables false
open Go.RowKit Go.ChangeShapes Go.WideShapes Go.ChangeAt Go.Joins
theorem bd_of_wf {x:Int} (h:(Lit.int .i64 x).wf=true):Bd x:=by
 simp[Lit.wf,IntKind.min,IntKind.max,IntKind.signed,IntKind.bits] at h
 exact⟨by omega,by omega⟩
theorem u8_of_wf {x:Int} (h:(Lit.int .u8 x).wf=true):0≤x∧x<256:=by
 simp[Lit.wf,IntKind.min,IntKind.max,IntKind.signed,IntKind.bits] at h
 exact⟨by omega,by omega⟩
section
variable {H:Type} {enc:TypeId×Value→H} {P:Program}
theorem field_in {W:World} {t:TypeId} {fs:Array Field} {n:Nat} {cs:List Value} {y:DataW H×List MemPlace} (ht:P.underlying t=some (.struct fs)) (h:DataW.trod enc P W 0 (fun _=>true) true n t cs=some y) (i:Nat) (u:TypeId) (o k:Nat) (hf:(fs[i]?).map (fun f=>(f.type,f.offset))=some (u,o)) (hk:P.cellsOf u=k):
 ∃m z,DataW.trod enc P W 0 (fun _=>true) true m u ((cs.drop o).take k)=some z:=by
 cases hi:fs[i]? with
 |none=>rw[hi] at hf;cases hf
 |some f=>
  rw[hi] at hf
  simp only[Option.map_some,Option.some.injEq,Prod.mk.injEq] at hf
  obtain⟨rfl,rfl⟩:=hf
  subst hk
  exact trod_field ht h i hi
end
section
variable {H:Type} {enc:TypeId×Value→H}
theorem u_int {W:World} {n:Nat} {k:IntKind} {t:TypeId} {v:Value} {y:DataW H×List MemPlace} (ht:Try.prog.underlying t=some (.int k)) (h:DataW.trod enc Try.prog W 0 (fun _=>true) true n t [v]=some y):∃x,v=.int k x∧(Lit.int k x).wf=true:=by
 obtain⟨x,e,_,hw⟩:=DataW.trod_int ht h
 simp at e
 exact⟨x,e,hw⟩
set_option maxRecDepth 20000 in
theorem ints_in {W:World} {n:Nat} {v:Value} {y:DataW H×List MemPlace} (h:DataW.trod enc Try.prog W 0 (fun _=>true) true n 42 [v]=some y):∃xs,Sl intR W v xs∧∀k∈xs,Bd k:=by
 have hq:∃xs,Sl (Rep.mk 1 (fun _ cs (x:Int)=>cs=[.int .i64 x]∧Bd x) (fun h=>by rw[h.1];rfl) (fun h=>by rw[h.1];simp[Value.oneCell']) (fun _ h=>h)) W v xs:=by
  refine sl_in _ Try.underlying42 (by kernel_rfl) (by decide) (fun n cs y hlen htr=> ?_) h
  match cs,hlen with
  |[c0],_=>
   obtain⟨x,rfl,hw⟩:=u_int Try.underlying3 htr
   exact⟨x,rfl,bd_of_wf hw⟩
 obtain⟨xs,A,c,rfl,h1,h2,h3⟩:=hq
 rcases h3 with h3|⟨b,off,rfl,hb,h3⟩
 ·obtain rfl:xs=[]:=List.length_eq_zero_iff.1 h3.1
  exact⟨[],⟨A,c,rfl,h1,h2,.inl h3⟩,fun k hk=>by cases hk⟩
 ·refine⟨xs,⟨_,c,rfl,h1,h2,.inr ⟨b,off,rfl,hb,fun i x hi=> ?_⟩⟩,fun k hk=> ?_⟩
  ·obtain⟨cs,⟨e,hbd⟩,hat⟩:=h3 i x hi
   exact⟨cs,⟨e,hbd⟩,hat⟩
  ·obtain⟨i,hi⟩:=List.getElem?_of_mem hk
   obtain⟨cs,⟨e,hbd⟩,_⟩:=h3 i k hi
   exact hbd
set_option maxRecDepth 20000 in
theorem bytes_in {W:World} {n:Nat} {v:Value} {y:DataW H×List MemPlace} (h:DataW.trod enc Try.prog W 0 (fun _=>true) true n 23 [v]=some y):∃xs,Sl byR W v xs:=by
 refine sl_in byR Try.underlying23 (by kernel_rfl) (by decide) (fun n cs y hlen htr=> ?_) h
 match cs,hlen with
 |[c0],_=>
  obtain⟨x,rfl,hw⟩:=u_int Try.underlying5 htr
  exact⟨x,rfl,u8_of_wf hw⟩
set_option maxRecDepth 20000 in
theorem deeds_in {W:World} {n:Nat} {v:Value} {y:DataW H×List MemPlace} (h:DataW.trod enc Try.prog W 0 (fun _=>true) true n 82 [v]=some y):∃xs,Sl deR W v xs:=by
 refine sl_in deR Try.underlying82 (by kernel_rfl) (by decide) (fun n cs y hlen htr=> ?_) h
 match cs,hlen with
 |[c0,c1,c2,c3],_=>
  obtain⟨_,_,h0⟩:=field_in Try.underlying81 htr 0 5 0 1 rfl (by kernel_rfl)
  obtain⟨_,_,h1⟩:=field_in Try.underlying81 htr 1 5 1 1 rfl (by kernel_rfl)
  obtain⟨_,_,h2⟩:=field_in Try.underlying81 htr 2 5 2 1 rfl (by kernel_rfl)
  obtain⟨_,_,h3⟩:=field_in Try.underlying81 htr 3 5 3 1 rfl (by kernel_rfl)
  simp only[List.drop_succ_cons,List.drop_zero,List.take_succ_cons,List.take_zero] at h0 h1 h2 h3
  obtain⟨x0,rfl,w0⟩:=u_int Try.underlying5 h0
  obtain⟨x1,rfl,w1⟩:=u_int Try.underlying5 h1
  obtain⟨x2,rfl,w2⟩:=u_int Try.underlying5 h2
  obtain⟨x3,rfl,w3⟩:=u_int Try.underlying5 h3
  exact⟨⟨x0,x1,x2,x3⟩,rfl,u8_of_wf w0,u8_of_wf w1,u8_of_wf w2,u8_of_wf w3⟩
set_option maxRecDepth 20000 in
theorem kinds_in {W:World} {n:Nat} {v:Value} {y:DataW H×List MemPlace} (h:DataW.trod enc Try.prog W 0 (fun _=>true) true n 22 [v]=some y):∃xs,Sl dlR W v xs:=by
 refine sl_in dlR Try.underlying22 (by kernel_rfl) (by decide) (fun n cs y hlen htr=> ?_) h
 match cs,hlen with
 |[c0],_=>
  obtain⟨l,hl⟩:=deeds_in htr
  obtain⟨A,c,rfl,_,_,hl⟩:=hl.open
  exact⟨l,A,c,rfl,hl⟩
set_option maxRecDepth 20000 in
theorem plan_open {W:World} {b0:Nat} {v:Value} {d:DataW H} {q:List MemPlace} (hok:Value.okWide Try.prog W .any b0 25 v) (h:DataW.Trod enc Try.prog W 0 (fun _=>true) true 25 v d q):∃(p:Pn) (kv fv:Value),v=.agg #[kv,fv,.int .i64 p.most]∧PnAt W p kv fv:=by
 obtain⟨cs,rfl,hsz⟩:=okWide_struct Try.underlying25 hok
 obtain⟨fuel,h⟩:=h
 have hlen:cs.toList.length=3:=by simpa using hsz.trans (by kernel_rfl)
 have h:DataW.trod enc Try.prog W 0 (fun _=>true) true fuel 25 cs.toList=some (d,q):=by simpa[Value.cells] using h
 have e:cs=cs.toList.toArray:=by simp
 generalize cs.toList=l at h hlen e
 subst e
 match l,hlen with
 |[c0,c1,c2],_=>
  obtain⟨_,_,h0⟩:=field_in Try.underlying25 h 0 22 0 1 rfl (by kernel_rfl)
  obtain⟨_,_,h1⟩:=field_in Try.underlying25 h 1 23 1 1 rfl (by kernel_rfl)
  obtain⟨_,_,h2⟩:=field_in Try.underlying25 h 2 3 2 1 rfl (by kernel_rfl)
  simp only[List.drop_succ_cons,List.drop_zero,List.take_succ_cons,List.take_zero] at h0 h1 h2
  obtain⟨ks,hk⟩:=kinds_in h0
  obtain⟨fs,hf⟩:=bytes_in h1
  obtain⟨x,rfl,_⟩:=u_int Try.underlying3 h2
  exact⟨⟨ks,fs,x⟩,c0,c1,rfl,hk,hf⟩
set_option maxRecDepth 20000 in
theorem ints_open {W:World} {b0:Nat} {v:Value} {d:DataW H} {q:List MemPlace} (hok:Value.okWide Try.prog W .any b0 42 v) (h:DataW.Trod enc Try.prog W 0 (fun _=>true) true 42 v d q):∃xs,Sl intR W v xs∧∀k∈xs,Bd k:=by
 obtain⟨fuel,h⟩:=h
 obtain⟨A,l,c,rfl⟩:=okWide_slice Try.underlying42 hok
 exact ints_in (n:=fuel) (y:=(d,q)) (by simpa[Value.cells] using h)
end
namespace Co
open Go.Conc
theorem seen_cell {W:World} {a:Addr} {x:Value} (h:W.cell? a=some x):(seen0 W).cell? a=some x:=by
 unfold World.cell? at h⊢
 cases ho:W.heap[a.block]? with
 |none=>rw[ho] at h;cases h
 |some o=>
  cases hp:plainO o with
  |false=>cases o<;>first|(cases hp;done)|(rw[ho] at h;cases h)
  |true=>
   have:(seen0 W).heap[a.block]?=some o:=by
    show(vis (hidOf (odds W.heap)) W.heap)[a.block]?=some o
    have hn:hidOf (odds W.heap) a.block=none:=by
     cases hh:hidOf (odds W.heap) a.block with
     |none=>rfl
     |some n=>
      obtain⟨_,o2,h5,h6⟩:=odds_some hh
      rw[ho] at h5
      cases h5
      rw[hp] at h6
      cases h6
    rw[vis_get,hn,map_see_none,ho]
   rw[this]
   rw[ho] at h
   exact h
theorem seen_size (W:World):(seen0 W).heap.size=W.heap.size:=vis_size _ _
theorem Sl.seen {α:Type} {R:Rep α} {W:World} {v:Value} {xs:List α} (hR:∀cs x,R.is W cs x→R.is (seen0 W) cs x) (h:Sl R W v xs):Sl R (seen0 W) v xs:=by
 obtain⟨A,c,rfl,h1,h2,h3⟩:=h
 refine⟨A,c,rfl,h1,h2, ?_⟩
 rcases h3 with h3|⟨b,off,rfl,hb,h3⟩
 ·exact .inl h3
 ·refine .inr ⟨b,off,rfl,by rw[seen_size];exact hb,fun i x hi=> ?_⟩
  obtain⟨cs,h4,h5⟩:=h3 i x hi
  exact⟨cs,hR _ _ h4,fun j u hu=>seen_cell (h5 j u hu)⟩
theorem deeds_ok {W:World} {v:Value} {l:List De} (h:Sl deR W v l):∀d∈l,d.Ok:=by
 intro d hd
 obtain⟨A,c,rfl,h1,h2,h3⟩:=h
 rcases h3 with h3|⟨b,off,rfl,hb,h3⟩
 ·rw[List.length_eq_zero_iff.1 h3.1] at hd;cases hd
 ·obtain⟨i,hi⟩:=List.getElem?_of_mem hd
  obtain⟨cs,⟨_,h⟩,_⟩:=h3 i d hi
  exact h
theorem kp_sl {v:World} {pv:Value} {pk:List Int} (h:Sl intR v pv pk):∀w,Kp v.heap.size v w→Sl intR w pv pk:=fun _ hk=>h.chgE intR_flat hk.chg fun hne k e (h2:v.heap.size≤k)=>by have:=h.far hne k e;omega
theorem lawP_of {W:World} {p:Pn} {kv fv pv:Value} {pk:List Int} (h:PnAt W p kv fv) (hp:Sl intR W pv pk) (hb:∀k∈pk,Bd k):LawP (seen0 W) p kv fv pv pk:=by
 have hks:Sl dlR (seen0 W) kv p.ks:=Sl.seen (fun cs x ⟨A,c,e,hx⟩=>⟨A,c,e,Sl.seen (fun _ _ h=>h) hx⟩) h.ks
 have hfs:Sl byR (seen0 W) fv p.fs:=Sl.seen (fun _ _ h=>h) h.fs
 refine⟨⟨hks,hfs⟩,kp_sl (Sl.seen (fun _ _ h=>h) hp),hb,fun f hf=> ?_,fun hfar hne=> ?_⟩
 ·obtain⟨A,c,_,_,_,h3⟩:=hfs
  rcases h3 with h3|⟨b,off,rfl,hb,h3⟩
  ·rw[List.length_eq_zero_iff.1 h3.1] at hf;cases hf
  ·obtain⟨i,hi⟩:=List.getElem?_of_mem hf
   obtain⟨cs,⟨_,h,_⟩,_⟩:=h3 i f hi
   exact h
 ·have hk0:p.ks≠[]:=fun e=>by simp[newE,firstS,e] at hne
  have hfar2:∀l∈p.ks,l.length≤20:=fun l hl=>by
   simp only[farS,Bool.or_eq_false_iff,List.any_eq_false,decide_eq_true_eq] at hfar
   have:=hfar.1.1 l hl
   omega
  generalize seen0 W=V at hks
  obtain⟨A,c,rfl,h1,h2,h3⟩:=hks
  rcases h3 with h3|⟨b,off,rfl,hb,h3⟩
  ·exact absurd (List.length_eq_zero_iff.1 h3.1) hk0
  ·refine⟨⟨b,off,c,rfl,hb,fun m l hl=> ?_⟩,fun l hl=> ?_⟩
   ·obtain⟨cs,⟨A2,c2,rfl,hx⟩,hat⟩:=h3 m l hl
    have h0:=hat 0 _ rfl
    simp only[dlR,Nat.mul_one,Nat.add_zero] at h0
    exact⟨_,h0,hx,fun hne k hk=>hx.far hne k hk,by have:=hfar2 l (List.mem_of_getElem? hl);omega⟩
   ·obtain⟨m,hm⟩:=List.getElem?_of_mem hl
    obtain⟨cs,⟨A2,c2,rfl,hx⟩,_⟩:=h3 m l hm
    exact deeds_ok hx
end Co
end Go.Proofs.Ytlngbdggehghgaa
