/-
  New, in company. Conditions: as each theorem says.
  Close, in company. Conditions: as each theorem says.
  Run, in company. Conditions: as each theorem says.
-/
import Derived.Test.YtlngbdggehghgaaCxQ
namespace Go.Proofs.Ytlngbdggehghgaa
set_option linter.unusedSimpArgs false
set_option linter.unusedVariables false
namespace Co
open Go.Conc Go.RowKit
structure Lone (g:Gh):Prop where
 ok:g.Ok 0
 on:g.on=false
 rs:g.rs=[]
 up:g.up=0
 off:g.off=0
 cnt:g.cnt=0
 lim:g.lim=0
 m0:g.m0=none
 ear:g.ear=true
 pos:0<g.n
theorem Lone.zero (hid:List (Nat×Nat)):Lone (Gh.zero hid):=⟨Gh.zero_ok hid,rfl,rfl,rfl,rfl,rfl,rfl,rfl,rfl,Nat.one_pos⟩
theorem Lone.away {g:Gh} (h:0<g.n):Lone g.away:=⟨Gh.Ok.away g,rfl,rfl,rfl,rfl,rfl,rfl,rfl,rfl,h⟩
theorem Lone.born {g:Gh} (L:Lone g) (s:Nat):Crew ({g with on:=true,s:=s,hid:=(s,5)::g.hid}:Gh) s []:=by
 refine⟨⟨fun _=> ?_,fun x hx=> ?_, ?_,fun x hx=> ?_, ?_,.inl L.off,fun e=>rfl, ?_,fun x hx=> ?_,L.ok.few,fun s' hs=> ?_⟩,rfl,rfl, ?_, ?_,L.off, ?_,L.lim,L.m0,L.ear,L.pos⟩
 ·show hidOf ((s,5)::g.hid) s=some 5
  rw[hidOf_cons,if_pos rfl]
 ·have:x∈g.rs:=hx
  rw[L.rs] at this;cases this
 ·show g.up≤g.rs.length
  rw[L.up];exact Nat.zero_le _
 ·have:x∈g.rs:=hx
  rw[L.rs] at this;cases this
 ·show(g.rs.map _).Nodup
  rw[L.rs];simp
 ·show((g.rs.map _)++(g.rs.map _)).Nodup
  rw[L.rs];simp
 ·have:x∈g.rs.take g.up:=hx
  rw[L.rs] at this;simp at this
 ·have:g.m0=some s':=hs
  rw[L.m0] at this;cases this
 ·show g.rs.map _=[]
  rw[L.rs];rfl
 ·show g.up=g.rs.length
  rw[L.up,L.rs];rfl
 ·show g.cnt=g.rs.length
  rw[L.cnt,L.rs];rfl
theorem Sl_lt {α:Type} {R:Rep α} {w:World} {v:Value} {xs:List α} (h:Sl R w v xs) (hne:xs≠[]):∀k,v.ownBlock=some k→k<w.heap.size:=by
 intro k hk
 obtain⟨A,c,rfl,_,_,hA⟩:=h.open
 obtain⟨b,off,cs,rfl,hb,_⟩:=hA.at_ (List.length_pos_iff.2 hne)
 have:b=k:=by simpa[Value.ownBlock] using hk
 omega
def S0 (most:Int):SS:=⟨[],[],most,false⟩
theorem SM.born {v:World} {o:Option Nat} {most:Int} (hm:0≤most∧most≤20000):SM o v.heap.size v.heap.size [] (.slice none 0 0) (.slice none 0 0) (S0 most) (World.born v (.cells #[WV o,.slice none 0 0,.slice none 0 0,.int .i64 most,.bool false] 62)):=by
 have hn:(World.born v (.cells #[WV o,.slice none 0 0,.slice none 0 0,.int .i64 most,.bool false] 62)).heap[v.heap.size]?=some (.cells #[WV o,.slice none 0 0,.slice none 0 0,.int .i64 most,.bool false] 62):=by
  exact alloc_new v _
 refine⟨⟨fun j u hu=> ?_,fun j=> ?_,by simp[World.born]⟩,Own.nil _ _ _ _,Own.nil _ _ _ _,rfl,fun i b r hb=>by simp at hb,by simp,Nat.le_refl _,by simp,by simp,fun k hk=>by simp[Value.ownBlock] at hk,fun k hk=>by simp[Value.ownBlock] at hk,⟨by simp[S0],hm.2,by simp[S0];exact hm.1,by simp[S0],fun i r hr=>by simp[S0] at hr⟩⟩
 ·unfold World.cell?
  simp only[hn,Option.isSome_none,Bool.false_eq_true,if_false]
  rw[←List.getElem?_toArray] at hu
  exact hu
 ·unfold World.frozen?
  simp only[hn]
  rfl
noncomputable def body21:Code:=Try.f21.body.getD .skip
set_option maxRecDepth 100000 in
set_option maxHeartbeats 4000000 in
theorem New_co {Z:Goal} {D:Wd} {g:Gh} {x:RW} {F:Nat→Prop} {v:World} {lv:Value} {l:List Tk} {most:Int} (hD:Wd.Ok D) (hZ:Z.Ok Try.prog) (L:Lone g) (hl:Sl tkR v lv l) (hlen:1≤l.length∧l.length≤200) (hmost:0≤most∧most≤20000) (hm:D.mem x F v) (hinv:D.inv x (begS (S0 most) l)):
 Calls Try.prog Z 0 (g.fx Try.prog κL 0) 21 #[WV D.o,lv,.int .i64 most] v fun e X' v'=>e=.tuple #[.pointer (some ⟨v.heap.size,0,none⟩),.int .i64 0]∧Aft D v.heap.size v.heap.size [] (begS (S0 most) l) x (fun k=>F k∨v.heap.size≤k) v X' v':=by
 intro c cs hpost
 have HP:=Hd.mk hpost
 clear hpost
 have hX:=L.ok.fx κL_ok
 obtain⟨lA,lc,rfl,hlc1,hlc2,_⟩:=hl.open
 rw[enter_at _ Try.func21 (by kernel_rfl:Try.f21.body=some body21),Try.ntmps21]
 walk_nrm
 simp only[body21,Try.f21,Option.getD_some]
 refine co_seq hZ hX ?_
 refine co_code hZ hX TT (by decide) (by kernel_rfl) (by kernel_rfl) fun K hK u hu=> ?_
 go_wp2_with fail
 refine hK.out _ _ (co_same hu ?_)
 clear hK K hu u
 refine co_seq hZ hX ?_
 refine co_block hZ hX ?_
 refine co_seq hZ hX ?_
 refine c_region (n:=0) (J:=fun _ a=>Co Try.prog Z 0 (g.fx Try.prog κL 0) a v) (Co.calmly hZ hX) [0,1,2] rfl ?_
 refine co_value hZ hX (WV D.o) rfl rfl (by decide) (fun _=>by simp[go_sem,execOp,Act.eval]) (fun _=>by simp[go_sem,execOp,Act.eval]) ?_
 walk_nrm
 refine co_op hZ hX TT.toTable (by decide) (R:=fun y u=>y=.bool false∧Same u v) rfl rfl (by kernel_rfl) (fun u hu=>⟨.bool false,u, ?_,rfl,hu⟩) (fun y u hh=> ?_)
 ·generalize D.o=o
  cases o<;>simp[go_sem,execOp,Act.eval,WV]
 obtain⟨rfl,hu⟩:=hh
 refine co_same hu ?_
 clear hu u
 walk_nrm
 refine co_value hZ hX (.bool false) rfl rfl (by decide) (fun _=>by simp[go_sem,execOp,Act.eval]) (fun _=>by simp[go_sem,execOp,Act.eval]) ?_
 walk_nrm
 refine co_region_end hZ hX ?_
 refine co_cond (t:=false) hZ hX (by simp[Act.eval]) ?_
 simp only[Bool.false_eq_true,↓reduceIte]
 refine co_seq hZ hX ?_
 have h1:¬((l.length:Int)<1):=by omega
 have h2:¬((200:Int)<(l.length:Int)):=by omega
 refine co_code hZ hX TT (by decide) (by kernel_rfl) (by kernel_rfl) fun K hK u hu=> ?_
 go_wp2_with fail
 refine hK.out _ _ (co_same hu ?_)
 clear hK K hu u
 refine co_cond (t:=false) hZ hX (by simp[Act.eval]) ?_
 simp only[Bool.false_eq_true,↓reduceIte]
 refine co_seq hZ hX ?_
 have h3:¬(most<0):=by omega
 have h4:¬((20000:Int)<most):=by omega
 refine co_code hZ hX TT (by decide) (by kernel_rfl) (by kernel_rfl) fun K hK u hu=> ?_
 go_wp2_with fail
 refine hK.out _ _ (co_same hu ?_)
 clear hK K hu u
 refine co_cond (t:=false) hZ hX (by simp[Act.eval]) ?_
 simp only[Bool.false_eq_true,↓reduceIte]
 refine co_skip hZ hX ?_
 refine co_inBlock hZ hX ?_
 refine co_seq hZ hX ?_
 refine c_region (n:=0) (J:=fun _ a=>Co Try.prog Z 0 (g.fx Try.prog κL 0) a v) (Co.calmly hZ hX) [0,1,2,3,4] rfl ?_
 refine co_value hZ hX (WV D.o) rfl rfl (by decide) (fun _=>by simp[go_sem,execOp,Act.eval]) (fun _=>by simp[go_sem,execOp,Act.eval]) ?_
 walk_nrm
 refine co_value hZ hX (.int .i64 most) rfl rfl (by decide) (fun _=>by simp[go_sem,execOp,Act.eval]) (fun _=>by simp[go_sem,execOp,Act.eval]) ?_
 walk_nrm
 refine co_value hZ hX (.agg #[WV D.o,.slice none 0 0,.slice none 0 0,.int .i64 most,.bool false,.int .u64 0,.int .u32 0]) rfl rfl (by decide) (fun _=> ?_) (fun _=> ?_) ?_
 ·generalize D.o=o
  cases o<;>simp[go_sem,execOp,Act.eval,WV]
 ·generalize D.o=o
  cases o<;>simp[go_sem,execOp,Act.eval,WV]
 walk_nrm
 refine co_facts fun hnv hH _=> ?_
 refine co_born_sched (cells:=#[WV D.o,.slice none 0 0,.slice none 0 0,.int .i64 most,.bool false,.int .u64 0,.int .u32 0]) (ty:=62) hZ κL_ok L.ok L.on L.rs L.cnt L.m0 rfl (a':= ?_) (fun w hw=> ?_) rfl rfl hnv hH ?_
 ·exact G ((Go.Conc.base 21).at ⟨#[WV D.o,.slice lA l.length lc,.int .i64 most,undef,undef,undef,.pointer none,.int .i64 0,undef,.bool false,WV D.o,.bool false,.bool false,.slice lA l.length lc,.int .i64 l.length,.bool false,.bool false,.slice lA l.length lc,.int .i64 l.length,.bool false,.bool false,.bool false,.int .i64 most,.bool false,.bool false,.int .i64 most,.bool false,.bool false,WV D.o,.int .i64 most,.agg #[WV D.o,.slice none 0 0,.slice none 0 0,.int .i64 most,.bool false,.int .u64 0,.int .u32 0],.pointer (some ⟨v.heap.size,0,none⟩),undef,undef,undef,undef],[]⟩ (.inRegion (opsC (fstC (sndC (sndC body21)))) [4]:: .code (sndC (sndC (sndC body21)))::[])) (c::cs)
 ·simp only[body21,Try.f21,Option.getD_some,fstC,sndC,opsC]
  refine(stepG_value (v:=.pointer (some ⟨v.heap.size,0,none⟩)) (w':=w.alloc (.cells #[WV D.o,.slice none 0 0,.slice none 0 0,.int .i64 most,.bool false,.int .u64 0,.int .u32 0] 62)) rfl rfl (by decide) ?_).trans ?_
  ·simp[go_sem,execOp,Act.eval,hw]
  ·rw[listed_none (by simp[go_sem,execOp,Act.eval])]
   rfl
 have cr:=L.born v.heap.size
 have hX1:=cr.ok.fx κL_ok
 have hS:=SM.born (v:=v) (o:=D.o) hmost
 have hc1:Chg (fun _=>False) v (World.born v (.cells #[WV D.o,.slice none 0 0,.slice none 0 0,.int .i64 most,.bool false] 62)):=Chg.alloc _ v _
 have hsz1:(World.born v (.cells #[WV D.o,.slice none 0 0,.slice none 0 0,.int .i64 most,.bool false] 62)).heap.size=v.heap.size+1:=by simp[World.born]
 rw[show(Array.extract #[WV D.o,.slice none 0 0,.slice none 0 0,.int .i64 most,.bool false,.int .u64 0,.int .u32 0] 0 5)=#[WV D.o,.slice none 0 0,.slice none 0 0,.int .i64 most,.bool false] from rfl]
 have hlt:=Sl_lt hl (fun e=>by rw[e] at hlen;simp at hlen)
 have hl1:=hl.chg tkR_flat hc1 (fun _ _=>id)
 generalize(World.born v (.cells #[WV D.o,.slice none 0 0,.slice none 0 0,.int .i64 most,.bool false] 62))=v1 at hS hc1 hsz1 hl1⊢
 simp only[body21,Try.f21,Option.getD_some,fstC,sndC,opsC]
 refine co_value hZ hX1 (.pointer (some ⟨v.heap.size,0,none⟩)) rfl rfl (by decide) (fun _=>by simp[go_sem,execOp,Act.eval]) (fun _=>by simp[go_sem,execOp,Act.eval]) ?_
 walk_nrm
 refine co_region_end hZ hX1 ?_
 refine co_seq hZ hX1 ?_
 refine c_region (n:=0) (J:=fun _ a=>Co Try.prog Z 0 (Gh.fx Try.prog κL {g with on:=true,s:=v.heap.size,hid:=(v.heap.size,5)::g.hid} 0) a v1) (Co.calmly hZ hX1) [0,1,2] rfl ?_
 refine co_value hZ hX1 (.pointer (some ⟨v.heap.size,0,none⟩)) rfl rfl (by decide) (fun _=>by simp[go_sem,execOp,Act.eval]) (fun _=>by simp[go_sem,execOp,Act.eval]) ?_
 walk_nrm
 refine co_value hZ hX1 (.slice lA l.length lc) rfl rfl (by decide) (fun _=>by simp[go_sem,execOp,Act.eval]) (fun _=>by simp[go_sem,execOp,Act.eval]) ?_
 walk_nrm
 refine co_call2 hZ hX1 rfl rfl (by decide) rfl Try.func39 (by kernel_rfl) (by kernel_rfl) (vals:=#[.pointer (some ⟨v.heap.size,0,none⟩),.slice lA l.length lc]) (by simp[Act.eval]) ?_
 refine begin_co (o:=D.o) (B:=v.heap.size) hZ (by omega) cr hS hl1 (fun k hk=>⟨fun e=> ?_,by simp[Value.ownBlock], ?_⟩) _ _ fun e X' v3 hq=> ?_
 ·have:=hlt k hk;omega
 ·have:=hlt k hk;omega
 obtain⟨rfl,g',bs',tv',rfl,cr',hS',hc3,htv',new,hbs,hnew⟩:=hq
 have hbs:bs'=new:=by simpa using hbs
 subst hbs
 have hX':=cr'.ok.fx κL_ok
 have hFlt:=hD.lt hm
 have hm3:=hD.keep (hD.keep hm hc1 (fun _ _=>id)) hc3 (fun k hk e=>by
  rcases e with e|e
  ·have:=hFlt k hk;omega
  ·simp[Value.ownBlock] at e)
 rw[Frame.finish_at]
 walk_nrm
 refine co_region_end hZ hX' ?_
 refine co_seq hZ hX' ?_
 refine co_code hZ hX' TT (by decide) (by kernel_rfl) (by kernel_rfl) fun K hK u hu=> ?_
 go_wp2_with fail
 refine hK.out _ _ (co_same hu ?_)
 clear hK K hu u
 refine co_ret hZ hX' ?_
 refine c_leave (n:=0) (J:=fun _ a=>Co Try.prog Z 0 (g'.fx Try.prog κL 0) a v3) (Co.calmly hZ hX') (x:=.tuple #[.pointer (some ⟨v.heap.size,0,none⟩),.int .i64 0]) rfl rfl Try.func21 (fun w=>by simp[results,Try.results21,go_sem]) (fun w=>by simp[results,Try.results21,go_sem]) ?_
 have hcv:Chg (fun k=>v.heap.size≤k) v v3:=(hc1.mono (fun _ _ e=>e.elim)).trans hc3 (fun k hk e=>by
  rcases e with e|e
  ·omega
  ·simp[Value.ownBlock] at e)
 refine HP.out _ _ v3 ⟨rfl,g',bs',fun k=>SMf v.heap.size bs' tv' (.slice none 0 0) k∨F k,by simp,⟨tv',.slice none 0 0,F,by simpa using cr',by simpa using hS',hm3,fun k hk e=> ?_,hinv,fun k hk=>hk⟩,hcv.mono (fun _ _ e=> .inr e),fun k hk=> ?_,bs',by simp⟩
 ·have hk2:=hFlt k hk
  rcases e with e|e|e|e
  ·omega
  ·have:=hnew k e;omega
  ·rcases htv' k e with e|e
   ·simp[Value.ownBlock] at e
   ·omega
  ·simp[Value.ownBlock] at e
 ·rcases hk with(e|e|e|e)|e
  ·exact .inr (by omega)
  ·have:=hnew k e;exact .inr (by omega)
  ·rcases htv' k e with e|e
   ·simp[Value.ownBlock] at e
   ·exact .inr (by omega)
  ·simp[Value.ownBlock] at e
  ·exact .inl (.inl e)
end Co
end Go.Proofs.Ytlngbdggehghgaa

namespace Go.Proofs.Ytlngbdggehghgaa
set_option linter.unusedSimpArgs false
set_option linter.unusedVariables false
namespace Co
open Go.Conc Go.RowKit
structure Clo (g:Gh) (s:Nat) (bs:List Nat) (i:Nat):Prop where
 ok:g.Ok 0
 on:g.on=true
 s:g.s=s
 rs:g.rs.map (·.r)=bs
 up:g.up=g.rs.length
 off:g.off=i
 cnt:g.cnt+i=g.rs.length
 lim:g.lim=i
 m0:g.m0=none
 ear:g.ear=true
 pos:0<g.n
theorem Crew.clo {g:Gh} {s:Nat} {bs:List Nat} (c:Crew g s bs):Clo g s bs 0:=⟨c.ok,c.on,c.s,c.rs,c.up,c.off,c.cnt,c.lim,c.m0,c.ear,c.pos⟩
theorem mayWake_close {P:Program} {b:Frame} {a:Act} {ops:Array Oper} {i:Nat} {rest:List Nat} {k:List Item} {cs:List Frame} {o:Oper} {x:Operand} {ats:Array TypeId}
 (ho:ops[i]?=some o) (hop:o.op=.call {callee:=.builtin .close,args:=#[x],argTypes:=ats}):mayWake P (G (b.at a (.inRegion ops (i::rest)::k)) cs)=true:=by
 simp[mayWake,G,Frame.at,ho,hop]
noncomputable def body15:Code:=Try.f15.body.getD .skip
noncomputable def rest15:Code:=sndC (sndC (sndC body15))
noncomputable def lb15:Code:=inC (inC (sndC (fstC rest15)))
set_option maxRecDepth 100000 in
set_option maxHeartbeats 4000000 in
theorem close_loop {Z:Goal} {o:Option Nat} {B s:Nat} {bs:List Nat} {tv uv:Value} {S:SS} {v:World} {cs:List Frame} {k:List Item} (hZ:Z.Ok Try.prog) (h:SM o B s bs tv uv S v)
 (hnext:∀(g':Gh) (Ja Jn Jc Jd Jj J0 Jm Jf Jg Jv Jy Jt Jk Js Jb Jp Ju Jz Jw Jq Jo Je Jr Ji J1 J3 J4 J5 J2 Jh Jx Jl:Value),Clo g' s bs S.rs.length→Co Try.prog Z 0 (g'.fx Try.prog κL 0) (G ((Go.Conc.base 15).at ⟨#[.pointer (some ⟨s,0,none⟩),Ja,Jn,Jc,Jd,Jj,J0,Jm,Jf,Jg,Jv,Jy,Jt,Jk,Js,Jb,Jp,Ju,tv,.int .i64 (S.rs.length:Int),.int .i64 (S.rs.length:Int),Jz,Jw,Jq,Jo,Je,Jr,Ji,J1,J3,J4,J5,J2,Jh,Jx,Jl],[]⟩ k) cs) v):
 ∀(m i:Nat),i+m=S.rs.length→∀{g:Gh},Clo g s bs i→∀(Ja Jn Jc Jd Jj J0 Jm Jf Jg Jv Jy Jt Jk Js Jb Jp Ju Jz Jw Jq Jo Je Jr Ji J1 J3 J4 J5 J2 Jh Jx Jl:Value),Co Try.prog Z 0 (g.fx Try.prog κL 0) (G ((Go.Conc.base 15).at ⟨#[.pointer (some ⟨s,0,none⟩),Ja,Jn,Jc,Jd,Jj,J0,Jm,Jf,Jg,Jv,Jy,Jt,Jk,Js,Jb,Jp,Ju,tv,.int .i64 (S.rs.length:Int),.int .i64 (i:Int),Jz,Jw,Jq,Jo,Je,Jr,Ji,J1,J3,J4,J5,J2,Jh,Jx,Jl],[]⟩ (.code lb15:: .inLoop lb15:: .inBlock 0::k)) cs) v:=by
 have HN:=Hd.mk hnext
 clear hnext
 have H:=Hd.mk h
 have hfew:=h.ok.few
 clear h
 intro m
 induction m with
 |zero=>
  intro i hi g cl Ja Jn Jc Jd Jj J0 Jm Jf Jg Jv Jy Jt Jk Js Jb Jp Ju Jz Jw Jq Jo Je Jr Ji J1 J3 J4 J5 J2 Jh Jx Jl
  have hX:=cl.ok.fx κL_ok
  have hie:i=S.rs.length:=by omega
  subst hie
  simp only[lb15,rest15,body15,Try.f15,Option.getD_some,fstC,sndC,inC]
  refine co_seq hZ hX ?_
  refine co_code hZ hX TT (by decide) (by kernel_rfl) (by kernel_rfl) fun K hK u hu=> ?_
  go_wp2_with fail
  refine hK.out _ _ (co_same hu ?_)
  clear hK K hu u
  refine co_seq hZ hX ?_
  refine co_cond (t:=false) hZ hX (by simp[Act.eval]) ?_
  simp only[Bool.false_eq_true,↓reduceIte]
  refine co_exit hZ hX rfl ?_
  exact HN.out g _ _ _ _ _ _ _ _ _ _ _ _ _ _ _ _ _ _ _ _ _ _ _ _ _ _ _ _ _ _ _ _ cl
 |succ m ih=>
  intro i hi g cl Ja Jn Jc Jd Jj J0 Jm Jf Jg Jv Jy Jt Jk Js Jb Jp Ju Jz Jw Jq Jo Je Jr Ji J1 J3 J4 J5 J2 Jh Jx Jl
  have hX:=cl.ok.fx κL_ok
  have hil:i<S.rs.length:=by omega
  have hgl:g.rs.length=S.rs.length:=by
   have h1:=cl.rs
   have h2:=H.out.len
   rw[←h1,List.length_map] at h2
   exact h2
  have hgx:g.rs[i]?=some g.rs[i]:=List.getElem?_eq_getElem (by omega)
  have hxm:g.rs[i]∈g.rs:=List.getElem_mem _
  generalize g.rs[i]=x at hgx hxm
  have hb:bs[i]?=some x.r:=by rw[←cl.rs,List.getElem?_map,hgx];rfl
  obtain⟨tA,tc,rfl,ht1,ht2,hp⟩:=H.out.ptr hb
  have hlen:=H.out.len
  rw[hlen] at ht1
  have hlt:x.r<v.heap.size:=(H.out.lt x.r (.inr (.inl (List.mem_of_getElem? hb)))).2
  have IH:=Hd.mk ih
  clear ih
  simp only[hlen,lb15,rest15,body15,Try.f15,Option.getD_some,fstC,sndC,inC] at IH⊢
  refine co_seq hZ hX ?_
  refine co_code hZ hX TT (by decide) (by kernel_rfl) (by kernel_rfl) fun K hK u hu=> ?_
  go_wp2_with fail
  refine hK.out _ _ (co_same hu ?_)
  clear hK K hu u
  refine co_seq hZ hX ?_
  refine co_cond (t:=true) hZ hX (by simp[Act.eval]) ?_
  simp only[↓reduceIte]
  refine co_skip hZ hX ?_
  refine co_seq hZ hX ?_
  refine co_block hZ hX ?_
  refine co_seq hZ hX ?_
  refine co_code hZ hX TT (by decide) (by kernel_rfl) (by kernel_rfl) fun K hK u hu=> ?_
  have hp2:u.cell? ⟨tA,i,none⟩=some (.pointer (some ⟨x.r,0,none⟩)):=by unfold World.cell?;rw[hu.heap];exact hp
  go_wp2_with fail
  refine hK.out _ _ (co_same hu ?_)
  clear hK K hu hp2 u
  refine c_region (n:=0) (J:=fun _ a=>Co Try.prog Z 0 (g.fx Try.prog κL 0) a v) (Co.calmly hZ hX) [0,1,2,3,4] rfl ?_
  refine co_value hZ hX (.pointer (some ⟨x.r,0,none⟩)) rfl rfl (by decide) (fun _=>by simp[go_sem,execOp,Act.eval]) (fun _=>by simp[go_sem,execOp,Act.eval]) ?_
  walk_nrm
  refine co_value hZ hX (.pointer (some ⟨x.r,0,none⟩)) rfl rfl (by decide) (fun _=>by simp[go_sem,execOp,Act.eval]) (fun _=>by simp[go_sem,execOp,Act.eval]) ?_
  walk_nrm
  refine co_value hZ hX (.pointer (some ⟨x.r,11,none⟩)) rfl rfl (by decide) (fun _=>by simp[go_sem,execOp,Act.eval]) (fun _=>by simp[go_sem,execOp,Act.eval]) ?_
  walk_nrm
  have hK:∀w,g.K w→w.cell? ⟨x.r,11,none⟩=some (.chan (some x.ct)):=fun w hw=>(hw x hxm).1
  refine co_read hZ hX (.chan (some x.ct)) ⟨x.r,11,none⟩ rfl rfl (by decide) (fun w hw=> ?_) (fun w hw=> ?_) ⟨x,hxm,.inl rfl⟩ hlt ?_
  ·have:=hK w hw;simp[go_sem,execOp,Act.eval,this]
  ·have:=hK w hw;simp[go_sem,execOp,Act.eval,this]
  walk_nrm
  have hcl:=cl.cnt
  refine co_shut (x:=x) hZ κL_ok cl.ok cl.m0 cl.on cl.ear cl.up (by rw[cl.off];exact hgx) (by omega) rfl rfl (mayWake_close rfl rfl) (fun w kk hw=>stepG_close (P:=Try.prog) rfl rfl (by decide) rfl (by simp[Act.eval]) hw (by kernel_rfl)) ?_
  have cl':Clo g.shut1 s bs (i+1):=⟨cl.ok.shut1 cl.on cl.up (by omega),cl.on,cl.s,cl.rs,cl.up,by show g.off+1=i+1;rw[cl.off],by show g.cnt-1+(i+1)=g.rs.length;omega,by show g.lim+1=i+1;rw[cl.lim],cl.m0,cl.ear,cl.pos⟩
  have hX':=cl'.ok.fx κL_ok
  walk_nrm
  refine co_region_end hZ hX' ?_
  refine co_inBlock hZ hX' ?_
  refine co_code hZ hX' TT (by decide) (by kernel_rfl) (by kernel_rfl) fun K hK u hu=> ?_
  go_wp2_with fail
  refine hK.out _ _ (co_same hu ?_)
  clear hK K hu u
  refine co_inLoop hZ hX' ?_
  exact IH.out (i+1) (by omega) cl' _ _ _ _ _ _ _ _ _ _ _ _ _ _ _ _ _ _ _ _ _ _ _ _ _ _ _ _ _ _ _ _
def SchC (D:Wd) (B s:Nat) (bs:List Nat) (S:SS) (x:RW) (M:Nat→Prop) (v:World):Prop:=
 ∃(tv uv:Value) (F:Nat→Prop),SM D.o B s bs tv uv S v∧D.mem x F v∧(∀k,F k→¬SMf s bs tv uv k)∧∀k,SMf s bs tv uv k∨F k→M k
theorem SchC.chg {D:Wd} (hD:Wd.Ok D) {B s:Nat} {bs:List Nat} {S:SS} {x:RW} {M G:Nat→Prop} {v w:World} (h:SchC D B s bs S x M v) (c:Chg G v w) (hG:∀k,M k→¬G k):SchC D B s bs S x M w:=by
 obtain⟨tv,uv,F,h2,h3,h4,h6⟩:=h
 exact⟨tv,uv,F,h2.chg c fun k hk=>hG k (h6 k (.inl hk)),hD.keep h3 c fun k hk=>hG k (h6 k (.inr hk)),h4,h6⟩
theorem Cells.close {w:World} {s:Nat} {a b c d e:Value} (h:Cells w s [a,b,c,d,e]) (y:Value):Cells (w.setCell ⟨s,4,none⟩ y) s [a,b,c,d,y]:=by
 have h1:Cells (putAt w s 4 [y]) s ([a,b,c,d]++[y]++[]):=Cells.part (l:=[a,b,c,d]) (m:=[e]) (r:=[]) h rfl
 exact h1
theorem SM.close {o:Option Nat} {B s:Nat} {bs:List Nat} {tv uv:Value} {S:SS} {w:World} (h:SM o B s bs tv uv S w):SM o B s bs tv uv {S with closed:=true} (w.setCell ⟨s,4,none⟩ (.bool true)):=by
 have c:=Chg.set (F:=fun k=>k=s) w (.bool true) (a:=⟨s,4,none⟩) rfl
 refine⟨Cells.close h.box _,h.tasks.chg ptR_flat c fun k hk e=>(h.ap k hk).1 e,h.turns.chg tnR_flat c fun k hk e=>(h.aq k hk).1 e,h.len,fun i b r hb hr=>(h.runs i b r hb hr).chg c fun e=>h.sb (e▸List.mem_of_getElem? hb),h.nd,h.sB,h.bB,h.sb,h.ap,h.aq,⟨h.ok.few,h.ok.most,h.ok.cnt,h.ok.age,h.ok.ids⟩⟩
noncomputable def reg10c:Code:=fstC (sndC rest15)
set_option maxRecDepth 100000 in
set_option maxHeartbeats 4000000 in
theorem close_wait {Z:Goal} {g:Gh} {v:World} {s:Nat} {bs:List Nat} {n:Nat} {cs:List Frame} {k:List Item} (hZ:Z.Ok Try.prog) (cl:Clo g s bs n) (hn:n=g.rs.length) (hfew:n≤200)
 {Ja Jn Jc Jd Jj J0 Jm Jf Jg Jv Jy Jt Jk Js Jb Jp Ju J6 J8 J7 Jz Jw Jq Jo Je Jr Ji J1 J3 J4 J5 J2 Jh Jx Jl:Value} (hnext:Co Try.prog Z 0 (g.away.fx Try.prog κL 0) (G ((Go.Conc.base 15).at ⟨#[.pointer (some ⟨s,0,none⟩),Ja,Jn,Jc,Jd,Jj,J0,Jm,Jf,Jg,Jv,Jy,Jt,Jk,Js,Jb,Jp,Ju,J6,J8,J7,Jz,Jw,Jq,Jo,Je,Jr,Ji,J1,.pointer (some ⟨s,0,none⟩),.pointer (some ⟨s,0,none⟩),.pointer (some ⟨s,5,none⟩),.tuple #[],Jh,Jx,Jl],[]⟩ k) cs) v):
 Co Try.prog Z 0 (g.fx Try.prog κL 0) (G ((Go.Conc.base 15).at ⟨#[.pointer (some ⟨s,0,none⟩),Ja,Jn,Jc,Jd,Jj,J0,Jm,Jf,Jg,Jv,Jy,Jt,Jk,Js,Jb,Jp,Ju,J6,J8,J7,Jz,Jw,Jq,Jo,Je,Jr,Ji,J1,J3,J4,J5,J2,Jh,Jx,Jl],[]⟩ (.code reg10c::k)) cs) v:=by
 have hgs:=cl.s
 subst hgs
 have hJ:=Co.calmly (v:=v) hZ (cl.ok.fx κL_ok)
 have hJ2:=Co.calmly (v:=v) hZ ((Gh.Ok.away g).fx κL_ok)
 have e7:reg10c=.region 10 (opsC reg10c) false:=by simp only[reg10c,rest15,body15,Try.f15,Option.getD_some,fstC,sndC,inC,opsC]
 have h:=wait_co (Z:=Z) (g:=g) (v:=v) hZ cl.ok cl.m0 cl.on cl.ear (by rw[cl.off];exact hn) (by have:=cl.cnt;omega) (by rw[cl.lim];omega) (b₀:=Go.Conc.base 15) (i₀:=3) (rest₀:=[]) (k₀:=k) (ops₀:=opsC reg10c) (a₀:=⟨#[.pointer (some ⟨g.s,0,none⟩),Ja,Jn,Jc,Jd,Jj,J0,Jm,Jf,Jg,Jv,Jy,Jt,Jk,Js,Jb,Jp,Ju,J6,J8,J7,Jz,Jw,Jq,Jo,Je,Jr,Ji,J1,.pointer (some ⟨g.s,0,none⟩),.pointer (some ⟨g.s,0,none⟩),.pointer (some ⟨g.s,5,none⟩),J2,Jh,Jx,Jl],[]⟩) (cs:=cs) ?_
 ·rw[e7]
  simp only[body34,Try.f34,Option.getD_some,reg10c,rest15,body15,Try.f15,fstC,sndC,inC,opsC] at h⊢
  refine c_region (n:=0) (J:=fun _ a=>Co Try.prog Z 0 (g.fx Try.prog κL 0) a v) hJ [0,1,2,3] rfl ?_
  refine co_value hZ (cl.ok.fx κL_ok) (.pointer (some ⟨g.s,0,none⟩)) rfl rfl (by decide) (fun _=>by simp[go_sem,execOp,Act.eval]) (fun _=>by simp[go_sem,execOp,Act.eval]) ?_
  walk_nrm
  refine co_value hZ (cl.ok.fx κL_ok) (.pointer (some ⟨g.s,0,none⟩)) rfl rfl (by decide) (fun _=>by simp[go_sem,execOp,Act.eval]) (fun _=>by simp[go_sem,execOp,Act.eval]) ?_
  walk_nrm
  refine co_value hZ (cl.ok.fx κL_ok) (.pointer (some ⟨g.s,5,none⟩)) rfl rfl (by decide) (fun _=>by simp[go_sem,execOp,Act.eval]) (fun _=>by simp[go_sem,execOp,Act.eval]) ?_
  walk_nrm
  refine c_call (n:=0) (J:=fun _ a=>Co Try.prog Z 0 (g.fx Try.prog κL 0) a v) hJ rfl rfl (by decide) rfl Try.func34 (by kernel_rfl) rfl ?_
  simp only[Try.f34]
  walk_nrm
  exact h
 ·simp only[reg10c,rest15,body15,Try.f15,Option.getD_some,fstC,sndC,inC,opsC]
  walk_nrm
  refine c_region_end (n:=0) (J:=fun _ a=>Co Try.prog Z 0 (g.away.fx Try.prog κL 0) a v) hJ2 ?_
  exact hnext
set_option maxRecDepth 100000 in
set_option maxHeartbeats 4000000 in
theorem Close_co {Z:Goal} {D:Wd} {g:Gh} {B s:Nat} {bs:List Nat} {S:SS} {x:RW} {M:Nat→Prop} {v:World} (hD:Wd.Ok D) (hZ:Z.Ok Try.prog) (h:Sch D B g s bs S x M v) (hop:S.closed=false):
 Calls Try.prog Z 0 (g.fx Try.prog κL 0) 15 #[.pointer (some ⟨s,0,none⟩)] v fun e X' v'=>e=.tuple #[.int .i64 ((alI S).length:Int),.int .i64 0]∧∃g',X'=g'.fx Try.prog κL 0∧Lone g'∧SchC D B s bs {S with closed:=true} x M v'∧Chg M v v':=by
 intro c cs hpost
 have HP:=Hd.mk hpost
 clear hpost
 obtain⟨tv,uv,F,cr,hSM,hm,hsep,hinv,hM⟩:=h
 have hX:=cr.ok.fx κL_ok
 have H1:=Hd.mk hSM
 have H2:=Hd.mk hm
 have HM:=Hd.mk hM
 have HE:=Hd.mk hsep
 clear hSM hm hinv hM hsep
 rw[enter_at _ Try.func15 (by kernel_rfl:Try.f15.body=some body15),Try.ntmps15]
 walk_nrm
 have e15:body15=.seq (fstC body15) (.seq (fstC (sndC body15)) (.seq (fstC (sndC (sndC body15))) rest15)):=by simp only[rest15,body15,Try.f15,Option.getD_some,fstC,sndC]
 have er15:rest15=.seq (.seq (fstC (fstC rest15)) (.block 0 (.loop lb15))) (.seq reg10c (sndC (sndC rest15))):=by simp only[reg10c,lb15,rest15,body15,Try.f15,Option.getD_some,fstC,sndC,inC]
 rw[e15]
 refine co_seq hZ hX ?_
 simp only[body15,Try.f15,Option.getD_some,fstC,sndC]
 refine co_code hZ hX TT (by decide) (by kernel_rfl) (by kernel_rfl) fun K hK u hu=> ?_
 go_wp2_with fail
 refine hK.out _ _ (co_same hu ?_)
 clear hK K hu u
 refine co_seq hZ hX ?_
 refine co_seq hZ hX ?_
 refine co_code hZ hX TT (by decide) (by kernel_rfl) (by kernel_rfl) fun K hK u hu=> ?_
 have R:=Lib.hid (ready_any (H1.out.chg (same_chg (F:=fun _=>False) hu) (fun _ _=>id)))
 have C0:=Hd.mk (same_chg (F:=fun _=>False) hu)
 have hr0:readyS S=0:=by simp[readyS,hop]
 rw[hr0] at R
 clear hu
 go_wp2_with (go_at_call 30;refine R.out.mono ?_;rintro e v1 ⟨rfl,hb1⟩)
 refine hK.out _ _ ?_
 have C1:=Hd.mk (C0.out.trans (Chg.of_below (F:=fun _=>False) hb1) (fun _ _=>id))
 clear hK K R C0 hb1 u
 refine co_seq hZ hX ?_
 refine co_code hZ hX TT (by decide) (by kernel_rfl) (by kernel_rfl) fun K hK u hu=> ?_
 go_wp2_with fail
 refine hK.out _ _ (co_same hu ?_)
 clear hK K hu u
 refine co_cond (t:=false) hZ hX (by simp[Act.eval]) ?_
 simp only[Bool.false_eq_true,↓reduceIte]
 refine co_skip hZ hX ?_
 refine co_seq hZ hX ?_
 refine co_code hZ hX TT (by decide) (by kernel_rfl) (by kernel_rfl) fun K hK u hu=> ?_
 have H4:=H1.out.chg (C1.out.trans (same_chg (F:=fun _=>False) hu) (fun _ _=>id)) (fun _ _=>id)
 have c4:=H4.box.c 4 _ rfl
 have f4:=H4.box.f 4
 have l4:=H4.box.lt
 clear H4
 go_wp2_with fail
 refine hK.out _ _ (co_same (hu.set _ _) ?_)
 clear hK K c4 f4 l4 hu u
 have H5:=Hd.mk (SM.close (H1.out.chg C1.out (fun _ _=>id)))
 have C5:=Hd.mk ((C1.out.mono (fun _ _ e=>e.elim)).trans (Chg.set (F:=fun k=>k=s) v1 (.bool true) (a:=⟨s,4,none⟩) rfl) (fun _ _=>id))
 generalize v1.setCell ⟨s,4,none⟩ (.bool true)=v2 at H5 C5⊢
 rw[er15]
 refine co_seq hZ hX ?_
 refine co_seq hZ hX ?_
 have hlenS:({S with closed:=true}:SS).rs.length=S.rs.length:=rfl
 obtain⟨tA,tc,e,ht1,ht2⟩:=H5.out.lenv
 rw[hlenS] at e ht1
 subst e
 have hX0:=hX
 refine(?_:Co Try.prog Z 0 (g.fx Try.prog κL 0) (G ((Go.Conc.base 15).at _ (.code (fstC (fstC rest15)):: .code (.block 0 (.loop lb15)):: .code (.seq reg10c (sndC (sndC rest15)))::[])) (c::cs)) v2)
 have er0:fstC (fstC rest15)=.region 5 (opsC (fstC (fstC rest15))) false:=by simp only[rest15,body15,Try.f15,Option.getD_some,fstC,sndC,opsC]
 rw[er0]
 refine co_code hZ hX TT (by decide) (by kernel_rfl) (by kernel_rfl) fun K hK u hu=> ?_
 have c1:=(H5.out.chg (same_chg (F:=fun _=>False) hu) (fun _ _=>id)).box.c 1 _ rfl
 simp only[rest15,body15,Try.f15,Option.getD_some,fstC,sndC,opsC] at hK⊢
 go_wp2_with fail
 refine hK.out _ _ (co_same hu ?_)
 clear hK K hu c1 u
 refine co_block hZ hX ?_
 refine co_loop hZ hX ?_
 refine close_loop (S:={S with closed:=true}) hZ H5.out (fun g' Ja Jn Jc Jd Jj J0 Jm Jf Jg Jv Jy Jt Jk Js Jb Jp Ju Jz Jw Jq Jo Je Jr Ji J1 J3 J4 J5 J2 Jh Jx Jl cl=> ?_) S.rs.length 0 (by simp) cr.clo _ _ _ _ _ _ _ _ _ _ _ _ _ _ _ _ _ _ _ _ _ _ _ _ _ _ _ _ _ _ _ _
 have hX2:=cl.ok.fx κL_ok
 refine co_seq hZ hX2 ?_
 have hgl:S.rs.length=g'.rs.length:=by
  have h1:=cl.rs
  have h2:=H5.out.len
  rw[←h1,List.length_map] at h2
  exact h2.symm
 refine close_wait hZ cl hgl H1.out.ok.few ?_
 have LA:=Lone.away (g:=g') cl.pos
 have hX3:=LA.ok.fx κL_ok
 simp only[rest15,body15,Try.f15,Option.getD_some,fstC,sndC]
 refine co_seq hZ hX3 ?_
 refine co_code hZ hX3 TT (by decide) (by kernel_rfl) (by kernel_rfl) fun K hK u hu=> ?_
 have R:=Lib.hid (alive_any (H5.out.chg (same_chg (F:=fun _=>False) hu) (fun _ _=>id)))
 have C9:=Hd.mk (same_chg (F:=fun _=>False) hu)
 have C6:=Hd.mk (C5.out.trans (same_chg (F:=fun k=>k=s) hu) (fun _ _=>id))
 clear hu
 go_wp2_with (go_at_call 35;refine R.out.mono ?_;rintro e v3 ⟨lv,rfl,hown,hb3⟩;obtain⟨lA,lc,rfl,hlc1,hlc2,hown⟩:=hown.form;have HB3:=Lib.hid hb3;clear hown hb3)
 refine hK.out _ _ ?_
 have C7:=Hd.mk (C6.out.trans (Chg.of_below (F:=fun k=>k=s) HB3.out) (fun _ _=>id))
 have H9:=Hd.mk (H5.out.chg (C9.out.trans (Chg.of_below (F:=fun _=>False) HB3.out) (fun _ _=>id)) (fun _ _=>id))
 clear hK K R C6 HB3 C9
 refine co_ret hZ hX3 ?_
 refine c_leave (n:=0) (J:=fun _ a=>Co Try.prog Z 0 (g'.away.fx Try.prog κL 0) a v3) (Co.calmly hZ hX3) (x:=.tuple #[.int .i64 ((alI S).length:Int),.int .i64 0]) rfl rfl Try.func15 (fun w=>by simp[results,Try.results15,go_sem,bxs];rfl) (fun w=>by simp[results,Try.results15,go_sem]) ?_
 have hs:M s:=HM.out s (.inl (.inl rfl))
 have hFs:∀k,F k→k≠s:=fun k hk e=>HE.out k hk (.inl e)
 refine HP.out _ _ v3 ⟨rfl,g'.away,rfl,LA,⟨_,uv,F, ?_, ?_,HE.out,HM.out⟩,C7.out.mono fun k _ e=>e▸hs⟩
 ·exact H9.out
 ·exact hD.keep H2.out C7.out hFs
end Co
end Go.Proofs.Ytlngbdggehghgaa

namespace Go.Proofs.Ytlngbdggehghgaa
set_option linter.unusedSimpArgs false
set_option linter.unusedVariables false
theorem begS_closed (l:List Tk):∀S:SS,(begS S l).closed=S.closed∧(begS S l).most=S.most∧(begS S l).turns=S.turns:=by
 induction l with
 |nil=>exact fun S=>⟨rfl,rfl,rfl⟩
 |cons t l ih=>
  intro S
  rw[Co.begS_cons]
  obtain⟨h1,h2,h3⟩:=ih (if S.rs.length<200 then addS S t else S)
  rw[h1,h2,h3]
  split<;>exact⟨rfl,rfl,rfl⟩
theorem giveS_closed (D:Wd) (S:SS) (x:RW) (L:List Nat) (i:Nat):(giveS D S x L i).1.closed=S.closed:=by
 unfold giveS
 split
 ·rfl
 ·exact(begS_closed _ _).1
theorem pickS_closed (D:Wd) (S:SS) (x:RW) (k:Int):(pickS D S x k).1.closed=S.closed:=by
 unfold pickS
 split
 ·exact giveS_closed _ _ _ _ _
 ·rfl
namespace Co
open Go.Conc Go.RowKit
theorem Aft.trans {D:Wd} {B s:Nat} {bs bs1:List Nat} {S1 S2:SS} {x1 x2:RW} {M M1:Nat→Prop} {v v1 v2:World} {X2:Fx} (hc:Chg M v v1) (hM:∀k,M1 k→M k∨v.heap.size≤k) (hb:∃new,bs1=bs++new) (h:Aft D B s bs1 S2 x2 M1 v1 X2 v2):Aft D B s bs S2 x2 M v X2 v2:=by
 obtain⟨g',bs',M',e,h1,h2,h3,n2,rfl⟩:=h
 obtain⟨n1,rfl⟩:=hb
 refine⟨g',_,M',e,h1,hc.trans h2 (fun k hk e=>(hM k e).elim id fun e=>by omega),fun k hk=> ?_,n1++n2,by simp⟩
 rcases h3 k hk with e|e
 ·exact hM k e
 ·exact .inr (Nat.le_trans hc.size e)
end Co
end Go.Proofs.Ytlngbdggehghgaa
