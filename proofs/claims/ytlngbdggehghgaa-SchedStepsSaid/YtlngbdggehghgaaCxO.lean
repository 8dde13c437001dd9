/-
  Tasks are begun, in company: the function. Conditions: as each theorem says.
  A turn is given, in company: what the step has returned is written down. Conditions: as each theorem says.
  A turn is given, in company: the function. Conditions: as each theorem says.
-/
import Derived.Test.YtlngbdggehghgaaCxL
namespace Go.Proofs.Ytlngbdggehghgaa
set_option linter.unusedSimpArgs false
set_option linter.unusedVariables false
def begS (S:SS) (l:List Tk):SS:=l.foldl (fun S t=>if S.rs.length<200 then addS S t else S) S
namespace Co
open Go.Conc Go.RowKit
theorem Gh.more_set_start {g:Gh} {s r ct cb:Nat} {bs:List Nat} (c:Crew g s bs) (h:(g.more r ct cb).Ok 0) (hx:(g.more r ct cb).rs[(g.more r ct cb).up]?=some ⟨g.n,r,ct,cb⟩) (hlen:bs.length<200) (hst:(((g.more r ct cb).set (g.cnt+1) 0 true).start).Ok 0):
 Crew (((g.more r ct cb).set (g.cnt+1) 0 true).start) s (bs++[r]):=by
 refine⟨hst,c.on,c.s, ?_, ?_,c.off, ?_,rfl,c.m0,rfl,by show 0<g.n+1;omega⟩
 ·show(g.rs++[(⟨g.n,r,ct,cb⟩:Wk)]).map (·.r)=_
  rw[List.map_append,c.rs]
  rfl
 ·show g.up+1=(g.rs++[(⟨g.n,r,ct,cb⟩:Wk)]).length
  rw[c.up];simp
 ·show g.cnt+1=(g.rs++[(⟨g.n,r,ct,cb⟩:Wk)]).length
  rw[c.cnt];simp
set_option maxRecDepth 100000 in
set_option maxHeartbeats 4000000 in
theorem begin_one {Z:Goal} {g:Gh} {o:Option Nat} {B s i:Nat} {bs:List Nat} {tv uv lv:Value} {S:SS} {v:World} {l:List Tk} {cs:List Frame} {k:List Item}
 (hZ:Z.Ok Try.prog) (cr:Crew g s bs) (h:SM o B s bs tv uv S v) (hl:Sl tkR v lv l) (hi:i<l.length) (hlen:S.rs.length<200) (hll:l.length≤1000000)
 (hnext:∀(g':Gh) (r:Nat) (v':World) (tv':Value) (Yg Jm J2 Yf Ye J7 Jt Jp J4 Jo Jv Jx Jq Jl Jr Yb Jz Js J5 Jn J3 Ya Jw Yd Jk J1 Ja Jh Jj Jc Je Jf Jb Ji Jd Jg Yc J8 J6 J0 Ju Jy J9:Value),Crew g' s (bs++[r])→v.heap.size≤r→SM o B s (bs++[r]) tv' uv (addS S l[i]) v'→Chg (fun k=>k=s∨tv.ownBlock=some k) v v'→(tv'.ownBlock=tv.ownBlock∨∃k,tv'.ownBlock=some k∧v.heap.size≤k)→
  Co Try.prog Z 0 (g'.fx Try.prog κL 0) (G ((Go.Conc.base 39).at ⟨#[.pointer (some ⟨s,0,none⟩),lv,Yg,Jm,J2,Yf,Ye,lv,.int .i64 (l.length:Int),.int .i64 ((i:Int)+1),J7,Jt,Jp,J4,Jo,Jv,Jx,Jq,Jl,Jr,Yb,Jz,Js,J5,Jn,J3,Ya,Jw,Yd,Jk,J1,Ja,Jh,Jj,Jc,Je,Jf,Jb,Ji,Jd,Jg,Yc,J8,J6,J0,Ju,Jy,J9],[]⟩ (.code lb39:: .inLoop lb39::k)) cs) v'):
 ∀(Yg Jm J2 Yf Ye J7 Jt Jp J4 Jo Jv Jx Jq Jl Jr Yb Jz Js J5 Jn J3 Ya Jw Yd Jk J1 Ja Jh Jj Jc Je Jf Jb Ji Jd Jg Yc J8 J6 J0 Ju Jy J9:Value),Co Try.prog Z 0 (g.fx Try.prog κL 0) (G ((Go.Conc.base 39).at ⟨#[.pointer (some ⟨s,0,none⟩),lv,Yg,Jm,J2,Yf,Ye,lv,.int .i64 (l.length:Int),.int .i64 (i:Int),J7,Jt,Jp,J4,Jo,Jv,Jx,Jq,Jl,Jr,Yb,Jz,Js,J5,Jn,J3,Ya,Jw,Yd,Jk,J1,Ja,Jh,Jj,Jc,Je,Jf,Jb,Ji,Jd,Jg,Yc,J8,J6,J0,Ju,Jy,J9],[]⟩ (.code lb39:: .inLoop lb39::k)) cs) v:=by
 intro Yg Jm J2 Yf Ye J7 Jt Jp J4 Jo Jv Jx Jq Jl Jr Yb Jz Js J5 Jn J3 Ya Jw Yd Jk J1 Ja Jh Jj Jc Je Jf Jb Ji Jd Jg Yc J8 J6 J0 Ju Jy J9
 have hgs:g.s=s:=cr.s
 refine begin_head (k:=.inLoop lb39::k) hZ (cr.ok.fx κL_ok) h hl hi hlen hll (fun v1 d5 Yg Jm J2 Ye J7 Jt Jp J4 Jo Jv Jx Jq Jl Jr Yb Jz Js J5 Jn J3 Ya Jw Yd Jk J1 Ja Jh Jj Jc Je Jf Jb Ji Jd Jg Yc J8 J6 J0 Ju Jy J9 c1 hd5 k5=> ?_) _ _ _ _ _ _ _ _ _ _ _ _ _ _ _ _ _ _ _ _ _ _ _ _ _ _ _ _ _ _ _ _ _ _ _ _ _ _ _ _ _ _ _
 have e39:rest39=.seq reg5 (.seq reg6b (.seq reg7b reg8b)):=by simp only[reg5,reg6b,reg7b,reg8b,rest39,lb39,body39,Try.f39,Option.getD_some,fstC,sndC,inC]
 rw[e39]
 refine co_seq hZ (cr.ok.fx κL_ok) ?_
 have h1:=h.chg c1 (fun _ _=>id)
 subst hgs
 refine begin_born hZ cr.ok cr.off cr.up (by have:=cr.pos;omega) k5 (fun r ct cb v2 Yg Jm J2 J7 Jt Jp J4 Jo Jv Jx Jq Jl Jr Yb Jz Js J5 Jn J3 Ya Jw Yd Jk J1 Ja Jh Jj Jc Je Jf Jb Ji Jd Jg Yc J8 J6 J0 Ju Jy J9 hr c2 k2 hmo=> ?_) _ _ _ _ _ _ _ _ _ _ _ _ _ _ _ _ _ _ _ _ _ _ _ _ _ _ _ _ _ _ _ _ _ _ _ _ _ _ _ _ _ _
 have h2:=h1.chg c2 (fun _ _=>id)
 refine co_seq hZ (hmo.fx κL_ok) ?_
 have hB:B≤v1.heap.size:=Nat.le_of_lt (Nat.lt_of_le_of_lt h1.sB h1.box.lt)
 refine begin_append (t:=l[i]) hZ (hmo.fx κL_ok) h2 hlen (fun k hk=>Nat.lt_of_lt_of_le (h1.lt k hk).2 hr) (Nat.le_trans hB hr) k2 fun v3 tv' Ja Jh Jj Jc Je Jf Jb Ji Jd Jg h3 c3 htv=> ?_
 refine co_seq hZ (hmo.fx κL_ok) ?_
 have hcn:g.cnt<400:=by
  have h4:=cr.cnt
  have h5:=cr.rs
  have h6:=h.len
  rw[←h5,List.length_map] at h6
  omega
 refine begin_add (g:=g.more r ct cb) hZ hmo cr.m0 cr.on cr.ear cr.off cr.lim hcn ?_
 have hms:((g.more r ct cb).set ((g.more r ct cb).cnt+1) 0 true).Ok 0:=hmo.set _ _ _ (by show g.cnt+1+g.off≤500;rw[cr.off];omega)
 have hx:(g.more r ct cb).rs[(g.more r ct cb).up]?=some ⟨g.n,r,ct,cb⟩:=by
  show(g.rs++[_])[g.up]?=_
  rw[cr.up]
  simp
 refine begin_go (g:=(g.more r ct cb).set ((g.more r ct cb).cnt+1) 0 true) (r:=r) (ct:=ct) (cb:=cb) hZ hms cr.m0 rfl cr.off hx fun hst=> ?_
 have hX:=hst.fx κL_ok
 have cr':=Gh.more_set_start cr hmo hx (by rw[h.len];exact hlen) hst
 refine co_inBlock hZ hX ?_
 have c13:Chg (fun k=>k=g.s∨tv.ownBlock=some k) v v3:=((c1.trans c2 (fun _ _=>id)).mono (fun _ _ e=>e.elim)).trans c3 (fun _ _=>id)
 have HN:=Hd.mk hnext
 clear hnext
 simp only[lb39,body39,Try.f39,Option.getD_some,fstC,sndC,inC]
 refine co_code hZ hX TT (by decide) (by kernel_rfl) (by kernel_rfl) fun K hK u hu=> ?_
 go_wp2_with fail
 refine hK.out _ _ (co_same hu ?_)
 clear hK K hu u
 refine co_inLoop hZ hX ?_
 exact HN.out _ r v3 tv' _ _ _ _ _ _ _ _ _ _ _ _ _ _ _ _ _ _ _ _ _ _ _ _ _ _ _ _ _ _ _ _ _ _ _ _ _ _ _ _ _ _ _ cr' (Nat.le_trans c1.size hr) h3 c13 (htv.imp id fun⟨k,e,hk⟩=>⟨k,e,Nat.le_trans (Nat.le_trans c1.size c2.size) hk⟩)
set_option maxRecDepth 100000 in
set_option maxHeartbeats 4000000 in
theorem begin_full {Z:Goal} {X:Fx} {o:Option Nat} {B s i:Nat} {bs:List Nat} {tv uv lv:Value} {S:SS} {v:World} {l:List Tk} {c:Frame} {cs:List Frame} {k:List Item}
 (hZ:Z.Ok Try.prog) (hX:X.Ok Try.prog 0) (h:SM o B s bs tv uv S v) (hl:Sl tkR v lv l) (hi:i<l.length) (hlen:S.rs.length=200)
 (hnext:∀(v':World),Chg (fun _=>False) v v'→Co Try.prog Z 0 X (G (c.finish (.tuple #[])) cs) v'):
 ∀(Yg Jm J2 Yf Ye J7 Jt Jp J4 Jo Jv Jx Jq Jl Jr Yb Jz Js J5 Jn J3 Ya Jw Yd Jk J1 Ja Jh Jj Jc Je Jf Jb Ji Jd Jg Yc J8 J6 J0 Ju Jy J9:Value),Co Try.prog Z 0 X (G ((Go.Conc.base 39).at ⟨#[.pointer (some ⟨s,0,none⟩),lv,Yg,Jm,J2,Yf,Ye,lv,.int .i64 (l.length:Int),.int .i64 (i:Int),J7,Jt,Jp,J4,Jo,Jv,Jx,Jq,Jl,Jr,Yb,Jz,Js,J5,Jn,J3,Ya,Jw,Yd,Jk,J1,Ja,Jh,Jj,Jc,Je,Jf,Jb,Ji,Jd,Jg,Yc,J8,J6,J0,Ju,Jy,J9],[]⟩ (.code lb39::k)) (c::cs)) v:=by
 intro Yg Jm J2 Yf Ye J7 Jt Jp J4 Jo Jv Jx Jq Jl Jr Yb Jz Js J5 Jn J3 Ya Jw Yd Jk J1 Ja Jh Jj Jc Je Jf Jb Ji Jd Jg Yc J8 J6 J0 Ju Jy J9
 have HN:=Hd.mk hnext
 clear hnext
 simp only[lb39,body39,Try.f39,Option.getD_some,fstC,sndC,inC]
 refine co_seq hZ hX ?_
 refine co_code hZ hX TT (by decide) (by kernel_rfl) (by kernel_rfl) fun K hK u hu=> ?_
 go_wp2_with fail
 refine hK.out _ _ (co_same hu ?_)
 clear hK K hu u
 refine co_seq hZ hX ?_
 refine co_cond (t:=true) hZ hX rfl ?_
 simp only[↓reduceIte]
 refine co_skip hZ hX ?_
 refine co_seq hZ hX ?_
 refine co_block hZ hX ?_
 refine co_seq hZ hX ?_
 refine co_code hZ hX TT (by decide) (by kernel_rfl) (by kernel_rfl) fun K hK u hu=> ?_
 have hl':=hl.chg tkR_flat (same_chg (F:=fun _=>False) hu) (fun _ _=>id)
 obtain⟨A,c,rfl,hc1,hc2,hA⟩:=hl'.open
 obtain⟨lb,off,cc,rfl,hlb,hcc,hat⟩:=hA.at_ hi
 have hcc2:cc=(l[i]).cells:=hcc
 subst hcc2
 generalize l[i]=t at hat hcc
 have p0:=hat 0 _ rfl
 have p1:=hat 1 _ rfl
 have p2:=hat 2 _ rfl
 have p3:=hat 3 _ rfl
 have p4:=hat 4 _ rfl
 have p5:=hat 5 _ rfl
 have p6:=hat 6 _ rfl
 simp only[tkR,Nat.add_zero,Tk.cells] at p0 p1 p2 p3 p4 p5 p6
 clear hat hcc hA hl'
 go_wp2_with fail
 refine hK.out _ _ ?_
 have e1:Chg (fun _=>False) v (u.alloc (.cells #[.int .i64 t.id,.int .i64 t.kind,.int .i64 t.pc,.int .i64 t.a,.int .i64 t.b,.int .i64 t.c,.int .i64 t.d] 35)):=(same_chg hu).trans (Chg.alloc (fun _=>False) u _) (fun _ _=>id)
 generalize(u.alloc (.cells #[.int .i64 t.id,.int .i64 t.kind,.int .i64 t.pc,.int .i64 t.a,.int .i64 t.b,.int .i64 t.c,.int .i64 t.d] 35))=v1 at e1⊢
 generalize u.heap.size=d5
 clear hK K hu u p0 p1 p2 p3 p4 p5 p6 hl hlb
 have HH:=Hd.mk (h.chg e1 (fun _ _=>id))
 clear h
 refine co_seq hZ hX ?_
 refine co_seq hZ hX ?_
 refine co_code hZ hX TT (by decide) (by kernel_rfl) (by kernel_rfl) fun K hK u hu=> ?_
 have h:=HH.out.chg (same_chg (F:=fun _=>False) hu) (fun _ _=>id)
 have c1:=h.box.c 1 _ rfl
 obtain⟨tA,tc,rfl,ht1,ht2⟩:=h.lenv
 clear h
 rw[hlen] at c1
 go_wp2_with fail
 refine hK.out _ _ (co_same hu ?_)
 clear hK K hu u c1
 refine co_cond (t:=true) hZ hX (by simp[Act.eval]) ?_
 simp only[↓reduceIte]
 refine co_ret hZ hX ?_
 refine c_leave (n:=0) (J:=fun _ a=>Co Try.prog Z 0 X a v1) (Co.calmly hZ hX) (x:=.tuple #[]) rfl rfl Try.func39 (fun w=>results_none rfl _ _ w) (fun w=>events_results_none rfl _ _) ?_
 exact HN.out v1 e1
theorem begS_cons {S:SS} {t:Tk} {l:List Tk}:begS S (t::l)=begS (if S.rs.length<200 then addS S t else S) l:=rfl
theorem begS_full {S:SS}:∀(l:List Tk),S.rs.length=200→begS S l=S
 |[],_=>rfl
 |t::l,h=>by rw[begS_cons,if_neg (by omega)];exact begS_full l h
def BegunQ (o:Option Nat) (B s:Nat) (bs:List Nat) (tv uv:Value) (S:SS) (l:List Tk) (v:World) (e:Value) (X':Fx) (v':World):Prop:=
 e=.tuple #[]∧∃(g':Gh) (bs':List Nat) (tv':Value),X'=g'.fx Try.prog κL 0∧Crew g' s bs'∧SM o B s bs' tv' uv (begS S l) v'∧Chg (fun k=>k=s∨tv.ownBlock=some k) v v'∧(∀k,tv'.ownBlock=some k→tv.ownBlock=some k∨v.heap.size≤k)∧∃new,bs'=bs++new∧∀b∈new,v.heap.size≤b
set_option maxRecDepth 100000 in
set_option maxHeartbeats 4000000 in
theorem begin_loop {Z:Goal} {o:Option Nat} {B s:Nat} {uv lv:Value} {l:List Tk} {c:Frame} {cs:List Frame} (hZ:Z.Ok Try.prog) (hll:l.length≤1000000):∀(m i:Nat),i+m=l.length→∀{g:Gh} {bs:List Nat} {tv:Value} {S:SS} {v:World},
 Crew g s bs→SM o B s bs tv uv S v→Sl tkR v lv l→(∀k,lv.ownBlock=some k→k≠s∧tv.ownBlock≠some k∧k<v.heap.size)→
 (∀x X' v',BegunQ o B s bs tv uv S (l.drop i) v x X' v'→Co Try.prog Z 0 X' (G (c.finish x) cs) v')→
 ∀(Yg Jm J2 Yf Ye J7 Jt Jp J4 Jo Jv Jx Jq Jl Jr Yb Jz Js J5 Jn J3 Ya Jw Yd Jk J1 Ja Jh Jj Jc Je Jf Jb Ji Jd Jg Yc J8 J6 J0 Ju Jy J9:Value),Co Try.prog Z 0 (g.fx Try.prog κL 0) (G ((Go.Conc.base 39).at ⟨#[.pointer (some ⟨s,0,none⟩),lv,Yg,Jm,J2,Yf,Ye,lv,.int .i64 (l.length:Int),.int .i64 (i:Int),J7,Jt,Jp,J4,Jo,Jv,Jx,Jq,Jl,Jr,Yb,Jz,Js,J5,Jn,J3,Ya,Jw,Yd,Jk,J1,Ja,Jh,Jj,Jc,Je,Jf,Jb,Ji,Jd,Jg,Yc,J8,J6,J0,Ju,Jy,J9],[]⟩ (.code lb39:: .inLoop lb39:: .inBlock 0::[])) (c::cs)) v:=by
 intro m
 induction m with
 |zero=>
  intro i hi g bs tv S v cr h hl hlo hpost Yg Jm J2 Yf Ye J7 Jt Jp J4 Jo Jv Jx Jq Jl Jr Yb Jz Js J5 Jn J3 Ya Jw Yd Jk J1 Ja Jh Jj Jc Je Jf Jb Ji Jd Jg Yc J8 J6 J0 Ju Jy J9
  have hX:=cr.ok.fx κL_ok
  have HP:=Hd.mk hpost
  clear hpost
  have hie:i=l.length:=by omega
  subst hie
  simp only[lb39,body39,Try.f39,Option.getD_some,fstC,sndC,inC]
  refine co_seq hZ hX ?_
  refine co_code hZ hX TT (by decide) (by kernel_rfl) (by kernel_rfl) fun K hK u hu=> ?_
  go_wp2_with fail
  refine hK.out _ _ (co_same hu ?_)
  clear hK K hu u
  refine co_seq hZ hX ?_
  refine co_cond (t:=false) hZ hX (by simp[Act.eval]) ?_
  simp only[Bool.false_eq_true,↓reduceIte]
  refine co_exit hZ hX rfl ?_
  refine co_end hZ hX ?_
  refine c_leave (n:=0) (J:=fun _ a=>Co Try.prog Z 0 (g.fx Try.prog κL 0) a v) (Co.calmly hZ hX) (x:=.tuple #[]) rfl rfl Try.func39 (fun w=>results_none rfl _ _ w) (fun w=>events_results_none rfl _ _) ?_
  refine HP.out _ _ v ⟨rfl,g,bs,tv,rfl,cr, ?_,Chg.refl _ _,fun k hk=> .inl hk,[],by simp,by simp⟩
  rw[List.drop_length]
  exact h
 |succ m ih=>
  intro i hi g bs tv S v cr h hl hlo hpost Yg Jm J2 Yf Ye J7 Jt Jp J4 Jo Jv Jx Jq Jl Jr Yb Jz Js J5 Jn J3 Ya Jw Yd Jk J1 Ja Jh Jj Jc Je Jf Jb Ji Jd Jg Yc J8 J6 J0 Ju Jy J9
  have hil:i<l.length:=by omega
  have hdr:l.drop i=l[i]::l.drop (i+1):=List.drop_eq_getElem_cons hil
  by_cases hlen:S.rs.length<200
  ·refine begin_one hZ cr h hl hil hlen hll (fun g' r v' tv' Yg Jm J2 Yf Ye J7 Jt Jp J4 Jo Jv Jx Jq Jl Jr Yb Jz Js J5 Jn J3 Ya Jw Yd Jk J1 Ja Jh Jj Jc Je Jf Jb Ji Jd Jg Yc J8 J6 J0 Ju Jy J9 cr' hr h' hc htv=> ?_) _ _ _ _ _ _ _ _ _ _ _ _ _ _ _ _ _ _ _ _ _ _ _ _ _ _ _ _ _ _ _ _ _ _ _ _ _ _ _ _ _ _ _
   have htk:∀k,tv'.ownBlock=some k→tv.ownBlock=some k∨v.heap.size≤k:=fun k hk=>by
    rcases htv with e|⟨k',e,hk'⟩
    ·exact .inl (e▸hk)
    ·rw[hk] at e
     have:=Option.some.inj e
     exact .inr (by omega)
   refine ih (i+1) (by omega) cr' h' (hl.chg tkR_flat hc fun k hk e=> ?_) (fun k hk=>⟨(hlo k hk).1,fun e=> ?_,Nat.lt_of_lt_of_le (hlo k hk).2.2 hc.size⟩) (fun x X' v'' hq=> ?_) _ _ _ _ _ _ _ _ _ _ _ _ _ _ _ _ _ _ _ _ _ _ _ _ _ _ _ _ _ _ _ _ _ _ _ _ _ _ _ _ _ _ _
   ·rcases e with e|e
    ·exact(hlo k hk).1 e
    ·exact(hlo k hk).2.1 e
   ·rcases htk k e with e2|e2
    ·exact(hlo k hk).2.1 e2
    ·have:=(hlo k hk).2.2;omega
   ·obtain⟨rfl,g2,bs2,tv2,rfl,q1,q2,q3,q4,new,rfl,q6⟩:=hq
    refine hpost _ _ v'' ⟨rfl,g2,_,tv2,rfl,q1, ?_,hc.trans q3 (fun k hk e=> ?_),fun k hk=> ?_,r::new,by simp,fun b hb=> ?_⟩
    ·rw[hdr,begS_cons,if_pos hlen]
     exact q2
    ·rcases e with e|e
     ·exact .inl e
     ·rcases htk k e with e2|e2
      ·exact .inr e2
      ·omega
    ·rcases q4 k hk with e|e
     ·exact htk k e
     ·exact .inr (Nat.le_trans hc.size e)
    ·rcases List.mem_cons.1 hb with rfl|hb
     ·exact hr
     ·exact Nat.le_trans hc.size (q6 b hb)
  ·have hfull:S.rs.length=200:=by have:=h.ok.few;omega
   refine begin_full hZ (cr.ok.fx κL_ok) h hl hil hfull (fun v' hc=> ?_) _ _ _ _ _ _ _ _ _ _ _ _ _ _ _ _ _ _ _ _ _ _ _ _ _ _ _ _ _ _ _ _ _ _ _ _ _ _ _ _ _ _ _
   refine hpost _ _ v' ⟨rfl,g,bs,tv,rfl,cr, ?_,hc.mono (fun _ _ e=>e.elim),fun k hk=> .inl hk,[],by simp,by simp⟩
   rw[begS_full _ hfull]
   exact h.chg hc (fun _ _=>id)
set_option maxRecDepth 100000 in
set_option maxHeartbeats 4000000 in
theorem begin_co {Z:Goal} {g:Gh} {o:Option Nat} {B s:Nat} {bs:List Nat} {tv uv lv:Value} {S:SS} {v:World} {l:List Tk} (hZ:Z.Ok Try.prog) (hll:l.length≤1000000) (cr:Crew g s bs) (h:SM o B s bs tv uv S v) (hl:Sl tkR v lv l)
 (hlo:∀k,lv.ownBlock=some k→k≠s∧tv.ownBlock≠some k∧k<v.heap.size):Calls Try.prog Z 0 (g.fx Try.prog κL 0) 39 #[.pointer (some ⟨s,0,none⟩),lv] v (BegunQ o B s bs tv uv S l v):=by
 intro c cs hpost
 have hX:=cr.ok.fx κL_ok
 rw[enter_at _ Try.func39 (by kernel_rfl:Try.f39.body=some body39)]
 obtain⟨lA,lc,rfl,hc1,hc2,_⟩:=hl.open
 have e39:body39=.seq (fstC body39) (.block 0 (.loop lb39)):=by simp only[lb39,body39,Try.f39,Option.getD_some,fstC,sndC,inC]
 rw[e39]
 refine co_seq hZ hX ?_
 have HL:=begin_loop (c:=c) (cs:=cs) hZ hll l.length 0 (by omega) cr h hl hlo hpost
 have HN:=Hd.mk HL
 clear HL hpost
 have e0:fstC body39=.region 0 (opsC (fstC body39)) false:=by simp only[lb39,body39,Try.f39,Option.getD_some,fstC,sndC,inC,opsC]
 simp only[body39,Try.f39,Option.getD_some,fstC]
 walk_nrm
 refine co_code hZ hX TT (by decide) (by kernel_rfl) (by kernel_rfl) fun K hK u hu=> ?_
 go_wp2_with fail
 refine hK.out _ _ (co_same hu ?_)
 clear hK K hu u
 refine co_block hZ hX ?_
 refine co_loop hZ hX ?_
 exact HN.out _ _ _ _ _ _ _ _ _ _ _ _ _ _ _ _ _ _ _ _ _ _ _ _ _ _ _ _ _ _ _ _ _ _ _ _ _ _ _ _ _ _ _
end Co
end Go.Proofs.Ytlngbdggehghgaa

namespace Go.Proofs.Ytlngbdggehghgaa
set_option linter.unusedSimpArgs false
set_option linter.unusedVariables false
theorem Cells.part {w:World} {b:Nat} {l m r m':List Value} (h:Cells w b (l++m++r)) (hm:m'.length=m.length):Cells (putAt w b l.length m') b (l++m'++r):=by
 have hg:=grownBy_putAt m' w b l.length
 have hfr:∀(us:List Value) (w:World) (off j:Nat),(putAt w b off us).frozen? ⟨b,j,none⟩=w.frozen? ⟨b,j,none⟩:=by
  intro us
  induction us with
  |nil=>exact fun _ _ _=>rfl
  |cons u us ih=>intro w off j;rw[putAt,ih,World.frozen?_setCell]
 have hoth:∀(us:List Value) (w:World) (off j:Nat),off+us.length≤j→(putAt w b off us).cell? ⟨b,j,none⟩=w.cell? ⟨b,j,none⟩:=by
  intro us
  induction us with
  |nil=>exact fun _ _ _ _=>rfl
  |cons u us ih=>
   intro w off j hj
   simp only[List.length_cons] at hj
   rw[putAt,ih _ _ _ (by omega)]
   exact World.cell?_setCell_other w _ _ u (fun e=>by injection e;omega)
 have ha:=put_at m' (w:=w) (g:=b) (off:=l.length) fun j hj=>by
  have hx:(l++m++r)[l.length+j]?=some m[j]:=by
   rw[List.append_assoc,List.getElem?_append_right (by omega),Nat.add_sub_cancel_left,List.getElem?_append_left (by omega)]
   exact List.getElem?_eq_getElem (by omega)
  exact⟨_,h.c _ _ hx⟩
 refine⟨fun j u hu=> ?_,fun j=>by rw[hfr];exact h.f j,Nat.lt_of_lt_of_le h.lt hg.size⟩
 by_cases h1:j<l.length
 ·rw[putAt_other m' w b l.length j h1]
  refine h.c j u ?_
  rw[List.append_assoc,List.getElem?_append_left h1] at hu⊢
  exact hu
 ·by_cases h2:j<l.length+m'.length
  ·have:=ha (j-l.length) u (by
    rw[List.append_assoc,List.getElem?_append_right (by omega),List.getElem?_append_left (by omega)] at hu
    exact hu)
   rwa[show l.length+(j-l.length)=j by omega] at this
  ·rw[hoth m' w l.length j (by omega)]
   refine h.c j u ?_
   rw[List.getElem?_append_right (by simp;omega)] at hu⊢
   simp only[List.length_append] at hu⊢
   rw[hm] at hu
   exact hu
namespace Co
open Go.Conc Go.RowKit
noncomputable def reg10:Code:=fstC rest10
noncomputable def reg11:Code:=fstC (sndC rest10)
noncomputable def reg12:Code:=sndC (sndC rest10)
def Sp11 (v:World) (b:Nat) (t:Tk) (q:Wa) (m:Nat) (w:World):Prop:=
 match m with
 |0=>w=v
 |1=>w=putAt v b 0 t.cells
 |_=>w=putAt (putAt v b 0 t.cells) b 7 q.cells
set_option maxRecDepth 100000 in
set_option maxHeartbeats 4000000 in
theorem give_write {Z:Goal} {X:Fx} {s b d8:Nat} {lv l:Value} {t:Tk} {q:Wa} {r:Ru} {v:World} {ds:List Deferred} {k:List Item} {cs:List Frame}
 (hZ:Z.Ok Try.prog) (hX:X.Ok Try.prog 0) (k8:Cells v d8 (doneL t q l)) (kb:Cells v b r.cells) (hne:d8≠b)
 (hnext:∀(v':World) (Jm J2 Yf Ye Qe Y6 J7 Jt Jp J4 Jo Jv Jx Jq Jl Jr Yb Jz Js J5 Jn J3 Ya Jw Yd Jk J1 Ja Jh Jj Jc Je Jf Jb Ji Jd Jg Yc J8 J6 J0 Ju Jy J9 Yq Yv Yl Qc Qb Y0 Ql Yt Y9 Ym Qg Ys Yk Yx Qo Qj Qf Yr Qr Yw Y4 Yj Y5 Qn Qi Y7 Yu Qm Qa Yz Qk Qq Qh Qd Qp Yp Y1 Yn Yo Y2 Y3 Y8 Yi Yy Yh:Value),v'=putAt (putAt v b 0 t.cells) b 7 q.cells→Co Try.prog Z 0 X (G ((Go.Conc.base 32).at ⟨#[.pointer (some ⟨s,0,none⟩),lv,.pointer (some ⟨b,0,none⟩),Jm,J2,Yf,Ye,Qe,.pointer (some ⟨d8,0,none⟩),Y6,J7,Jt,Jp,J4,Jo,Jv,Jx,Jq,Jl,Jr,Yb,Jz,Js,J5,Jn,J3,Ya,Jw,Yd,Jk,J1,Ja,Jh,Jj,Jc,Je,Jf,Jb,Ji,Jd,Jg,Yc,J8,J6,J0,Ju,Jy,J9,Yq,Yv,Yl,Qc,Qb,Y0,Ql,Yt,Y9,Ym,Qg,Ys,Yk,Yx,Qo,Qj,Qf,Yr,Qr,Yw,Y4,Yj,Y5,Qn,Qi,Y7,Yu,Qm,Qa,Yz,Qk,Qq,Qh,Qd,Qp,Yp,Y1,Yn,Yo,Y2,Y3,Y8,Yi,Yy,Yh],ds⟩ k) cs) v'):
 ∀(Jm J2 Yf Ye Qe Y6 J7 Jt Jp J4 Jo Jv Jx Jq Jl Jr Yb Jz Js J5 Jn J3 Ya Jw Yd Jk J1 Ja Jh Jj Jc Je Jf Jb Ji Jd Jg Yc J8 J6 J0 Ju Jy J9 Yq Yv Yl Qc Qb Y0 Ql Yt Y9 Ym Qg Ys Yk Yx Qo Qj Qf Yr Qr Yw Y4 Yj Y5 Qn Qi Y7 Yu Qm Qa Yz Qk Qq Qh Qd Qp Yp Y1 Yn Yo Y2 Y3 Y8 Yi Yy Yh:Value),Co Try.prog Z 0 X (G ((Go.Conc.base 32).at ⟨#[.pointer (some ⟨s,0,none⟩),lv,.pointer (some ⟨b,0,none⟩),Jm,J2,Yf,Ye,Qe,.pointer (some ⟨d8,0,none⟩),Y6,J7,Jt,Jp,J4,Jo,Jv,Jx,Jq,Jl,Jr,Yb,Jz,Js,J5,Jn,J3,Ya,Jw,Yd,Jk,J1,Ja,Jh,Jj,Jc,Je,Jf,Jb,Ji,Jd,Jg,Yc,J8,J6,J0,Ju,Jy,J9,Yq,Yv,Yl,Qc,Qb,Y0,Ql,Yt,Y9,Ym,Qg,Ys,Yk,Yx,Qo,Qj,Qf,Yr,Qr,Yw,Y4,Yj,Y5,Qn,Qi,Y7,Yu,Qm,Qa,Yz,Qk,Qq,Qh,Qd,Qp,Yp,Y1,Yn,Yo,Y2,Y3,Y8,Yi,Yy,Yh],ds⟩ (.code reg11::k)) cs) v:=by
 intro Jm J2 Yf Ye Qe Y6 J7 Jt Jp J4 Jo Jv Jx Jq Jl Jr Yb Jz Js J5 Jn J3 Ya Jw Yd Jk J1 Ja Jh Jj Jc Je Jf Jb Ji Jd Jg Yc J8 J6 J0 Ju Jy J9 Yq Yv Yl Qc Qb Y0 Ql Yt Y9 Ym Qg Ys Yk Yx Qo Qj Qf Yr Qr Yw Y4 Yj Y5 Qn Qi Y7 Yu Qm Qa Yz Qk Qq Qh Qd Qp Yp Y1 Yn Yo Y2 Y3 Y8 Yi Yy Yh
 have kb0:Cells v b ([]++r.task.cells++(r.wait.cells++[.int .i64 r.age])):=by rw[List.nil_append,←List.append_assoc];exact kb
 have kb1:Cells (putAt v b 0 t.cells) b ([]++t.cells++(r.wait.cells++[.int .i64 r.age])):=kb0.part rfl
 have kb2:Cells (putAt v b 0 t.cells) b (t.cells++r.wait.cells++[.int .i64 r.age]):=by rw[List.nil_append,←List.append_assoc] at kb1;exact kb1
 have Sp8:∀m w,Sp11 v b t q m w→Cells w d8 (doneL t q l):=fun m w hsp=>by
  have g1:=Chg.grown (F:=fun k=>k=b) (grownBy_putAt t.cells v b 0) (fun k e=>(Option.some.inj e).symm)
  have g2:=Chg.grown (F:=fun k=>k=b) (grownBy_putAt q.cells (putAt v b 0 t.cells) b 7) (fun k e=>(Option.some.inj e).symm)
  match m,hsp with
  |0,e=>subst e;exact k8
  |1,e=>subst e;exact k8.chg g1 hne
  |m+2,e=>subst e;exact(k8.chg g1 hne).chg g2 hne
 simp only[reg11,rest10,body32,Try.f32,Option.getD_some,fstC,sndC]
 refine co_beside hZ hX (by rfl) [some (.pointer (some ⟨b,0,none⟩)),some (.pointer (some ⟨b,0,none⟩)),some (.pointer (some ⟨d8,0,none⟩)),some (.agg #[.int .i64 t.id,.int .i64 t.kind,.int .i64 t.pc,.int .i64 t.a,.int .i64 t.b,.int .i64 t.c,.int .i64 t.d]),some (.pointer (some ⟨d8,7,none⟩)),some (.agg #[.int .i64 q.kind,.int .i64 q.obj,.int .i64 q.til]),some (.pointer (some ⟨b,0,none⟩)),some (.pointer (some ⟨b,0,none⟩)),none,some (.pointer (some ⟨b,0,none⟩)),some (.pointer (some ⟨b,7,none⟩)),none] [8,11] (List.range' 79 10) (by kernel_rfl) (fun m sv w=>sv=[]∧Sp11 v b t q m w) ⟨rfl,rfl⟩ ?_ ?_ ?_
 ·intro i x hx m sv w a hsp hds hsz hsv hb hr hbi hbe rest hc
  replace hsp:=hsp.2
  match i,hx with
  |0,hx=>
   obtain rfl:=Option.some.inj (Option.some.inj hx)
   have e0:a.tmps[2]?=some (.pointer (some ⟨b,0,none⟩)):=hr 2 (by decide)
   refine co_value hZ hX _ rfl rfl (by decide) (fun _=> ?_) (fun _=> ?_) hc
   ·simp[go_sem,execOp,e0]
   ·simp[go_sem,execOp,e0]
  |1,hx=>
   obtain rfl:=Option.some.inj (Option.some.inj hx)
   have e0:a.tmps[2]?=some (.pointer (some ⟨b,0,none⟩)):=hr 2 (by decide)
   refine co_value hZ hX _ rfl rfl (by decide) (fun _=> ?_) (fun _=> ?_) hc
   ·simp[go_sem,execOp,e0]
   ·simp[go_sem,execOp,e0]
  |2,hx=>
   obtain rfl:=Option.some.inj (Option.some.inj hx)
   have e0:a.tmps[8]?=some (.pointer (some ⟨d8,0,none⟩)):=hr 8 (by decide)
   refine co_value hZ hX _ rfl rfl (by decide) (fun _=> ?_) (fun _=> ?_) hc
   ·simp[go_sem,execOp,e0]
   ·simp[go_sem,execOp,e0]
  |3,hx=>
   obtain rfl:=Option.some.inj (Option.some.inj hx)
   have e0:a.tmps[81]?=some (.pointer (some ⟨d8,0,none⟩)):=hb 2 _ 81 rfl rfl (by kernel_rfl)
   have hC:=Sp8 m w hsp
   have c0:=hC.c 0 _ rfl
   have c1:=hC.c 1 _ rfl
   have c2:=hC.c 2 _ rfl
   have c3:=hC.c 3 _ rfl
   have c4:=hC.c 4 _ rfl
   have c5:=hC.c 5 _ rfl
   have c6:=hC.c 6 _ rfl
   obtain⟨tm,ds'⟩:=a
   refine co_op hZ hX TT.toTable (by decide) (R:=fun y u=>y=_∧Same u w) rfl rfl (by kernel_rfl) (fun u hu=> ?_) (fun y u hh=>by rw[hh.1];exact co_same hh.2 hc)
   have hcell:∀a,u.cell? a=w.cell? a:=fun a=>by unfold World.cell?;rw[hu.heap]
   refine⟨_,u, ?_,rfl,hu⟩
   simp only[←hcell] at c0 c1 c2 c3 c4 c5 c6
   simp[go_sem,execOp,e0,c0,c1,c2,c3,c4,c5,c6]
  |4,hx=>
   obtain rfl:=Option.some.inj (Option.some.inj hx)
   have e0:a.tmps[8]?=some (.pointer (some ⟨d8,0,none⟩)):=hr 8 (by decide)
   refine co_value hZ hX _ rfl rfl (by decide) (fun _=> ?_) (fun _=> ?_) hc
   ·simp[go_sem,execOp,e0]
   ·simp[go_sem,execOp,e0]
  |5,hx=>
   obtain rfl:=Option.some.inj (Option.some.inj hx)
   have e0:a.tmps[83]?=some (.pointer (some ⟨d8,7,none⟩)):=hb 4 _ 83 rfl rfl (by kernel_rfl)
   have hC:=Sp8 m w hsp
   have c7:=hC.c 7 _ rfl
   have c8:=hC.c 8 _ rfl
   have c9:=hC.c 9 _ rfl
   obtain⟨tm,ds'⟩:=a
   refine co_op hZ hX TT.toTable (by decide) (R:=fun y u=>y=_∧Same u w) rfl rfl (by kernel_rfl) (fun u hu=> ?_) (fun y u hh=>by rw[hh.1];exact co_same hh.2 hc)
   have hcell:∀a,u.cell? a=w.cell? a:=fun a=>by unfold World.cell?;rw[hu.heap]
   refine⟨_,u, ?_,rfl,hu⟩
   simp only[←hcell] at c7 c8 c9
   simp[go_sem,execOp,e0,c7,c8,c9]
  |6,hx=>
   obtain rfl:=Option.some.inj (Option.some.inj hx)
   have e0:a.tmps[79]?=some (.pointer (some ⟨b,0,none⟩)):=hb 0 _ 79 rfl rfl (by kernel_rfl)
   refine co_value hZ hX _ rfl rfl (by decide) (fun _=> ?_) (fun _=> ?_) hc
   ·simp[go_sem,execOp,e0]
   ·simp[go_sem,execOp,e0]
  |7,hx=>
   obtain rfl:=Option.some.inj (Option.some.inj hx)
   have e0:a.tmps[85]?=some (.pointer (some ⟨b,0,none⟩)):=hb 6 _ 85 rfl rfl (by kernel_rfl)
   refine co_value hZ hX _ rfl rfl (by decide) (fun _=> ?_) (fun _=> ?_) hc
   ·simp[go_sem,execOp,e0]
   ·simp[go_sem,execOp,e0]
  |8,hx=>exact absurd hx (by simp)
  |9,hx=>
   obtain rfl:=Option.some.inj (Option.some.inj hx)
   have e0:a.tmps[80]?=some (.pointer (some ⟨b,0,none⟩)):=hb 1 _ 80 rfl rfl (by kernel_rfl)
   refine co_value hZ hX _ rfl rfl (by decide) (fun _=> ?_) (fun _=> ?_) hc
   ·simp[go_sem,execOp,e0]
   ·simp[go_sem,execOp,e0]
  |10,hx=>
   obtain rfl:=Option.some.inj (Option.some.inj hx)
   have e0:a.tmps[87]?=some (.pointer (some ⟨b,0,none⟩)):=hb 9 _ 87 rfl rfl (by kernel_rfl)
   refine co_value hZ hX _ rfl rfl (by decide) (fun _=> ?_) (fun _=> ?_) hc
   ·simp[go_sem,execOp,e0]
   ·simp[go_sem,execOp,e0]
  |11,hx=>exact absurd hx (by simp)
  |i+12,hx=>exact absurd hx (by simp)
 ·intro m i hi sv w a hsp hds hsz hsv hb hr rest hc
  match m,hi with
  |0,hi=>
   obtain rfl:=Option.some.inj hi
   obtain⟨rfl,e⟩:=hsp
   obtain rfl:=(show w=v from e)
   have e0:a.tmps[86]?=some (.pointer (some ⟨b,0,none⟩)):=hb 7 _ 86 rfl rfl (by kernel_rfl)
   have e1:a.tmps[82]?=some (.agg #[.int .i64 t.id,.int .i64 t.kind,.int .i64 t.pc,.int .i64 t.a,.int .i64 t.b,.int .i64 t.c,.int .i64 t.d]):=hb 3 _ 82 rfl rfl (by kernel_rfl)
   obtain⟨tm,ds'⟩:=a
   refine co_opS hZ hX TT.toTable (by decide) (R:=fun u=>Same u (putAt w b 0 t.cells)) rfl rfl (by kernel_rfl) (fun u hu=> ?_) (fun u hh=>co_same hh (hc undef _ ⟨rfl,rfl⟩))
   have hcell:∀a,u.cell? a=w.cell? a:=fun a=>by unfold World.cell?;rw[hu.heap]
   have hfr:∀a,u.frozen? a=w.frozen? a:=fun a=>by unfold World.frozen?;rw[hu.heap]
   have c0:=kb.c 0 _ rfl
   have c1:=kb.c 1 _ rfl
   have c2:=kb.c 2 _ rfl
   have c3:=kb.c 3 _ rfl
   have c4:=kb.c 4 _ rfl
   have c5:=kb.c 5 _ rfl
   have c6:=kb.c 6 _ rfl
   have cf:=kb.f
   simp only[←hcell] at c0 c1 c2 c3 c4 c5 c6
   simp only[←hfr] at cf
   refine⟨putAt u b 0 t.cells, ?_,hu.putAt _ _ _⟩
   simp[go_sem,execOp,e0,e1,c0,c1,c2,c3,c4,c5,c6,cf]
   rfl
  |1,hi=>
   obtain rfl:=Option.some.inj hi
   obtain⟨rfl,e⟩:=hsp
   obtain rfl:=(show w=putAt v b 0 t.cells from e)
   have e0:a.tmps[88]?=some (.pointer (some ⟨b,7,none⟩)):=hb 10 _ 88 rfl rfl (by kernel_rfl)
   have e1:a.tmps[84]?=some (.agg #[.int .i64 q.kind,.int .i64 q.obj,.int .i64 q.til]):=hb 5 _ 84 rfl rfl (by kernel_rfl)
   obtain⟨tm,ds'⟩:=a
   refine co_opS hZ hX TT.toTable (by decide) (R:=fun u=>Same u (putAt (putAt v b 0 t.cells) b 7 q.cells)) rfl rfl (by kernel_rfl) (fun u hu=> ?_) (fun u hh=>co_same hh (hc undef _ ⟨rfl,rfl⟩))
   have c7:=kb2.c 7 _ rfl
   have c8:=kb2.c 8 _ rfl
   have c9:=kb2.c 9 _ rfl
   have cf:=kb2.f
   generalize putAt v b 0 t.cells=w at hu c7 c8 c9 cf⊢
   have hcell:∀a,u.cell? a=w.cell? a:=fun a=>by unfold World.cell?;rw[hu.heap]
   have hfr:∀a,u.frozen? a=w.frozen? a:=fun a=>by unfold World.frozen?;rw[hu.heap]
   simp only[←hcell] at c7 c8 c9
   simp only[←hfr] at cf
   refine⟨putAt u b 7 q.cells, ?_,hu.putAt _ _ _⟩
   simp[go_sem,execOp,e0,e1,c7,c8,c9,cf]
   rfl
  |m+2,hi=>exact absurd hi (by simp)
 ·intro sv w a hsp hds hsz hsv hb hr
  obtain⟨rfl,e⟩:=hsp
  have hgot:∀p∈[(79,.pointer (some ⟨b,0,none⟩)),(80,.pointer (some ⟨b,0,none⟩)),(81,.pointer (some ⟨d8,0,none⟩)),(82,.agg #[.int .i64 t.id,.int .i64 t.kind,.int .i64 t.pc,.int .i64 t.a,.int .i64 t.b,.int .i64 t.c,.int .i64 t.d]),(83,.pointer (some ⟨d8,7,none⟩)),(84,.agg #[.int .i64 q.kind,.int .i64 q.obj,.int .i64 q.til]),(85,.pointer (some ⟨b,0,none⟩)),(86,.pointer (some ⟨b,0,none⟩)),(87,.pointer (some ⟨b,0,none⟩)),(88,.pointer (some ⟨b,7,none⟩))],a.tmps[p.1]?=some p.2:=by
   intro p hp
   simp only[List.mem_cons,List.not_mem_nil,or_false] at hp
   rcases hp with rfl|rfl|rfl|rfl|rfl|rfl|rfl|rfl|rfl|rfl
   ·exact hb 0 _ 79 rfl rfl
   ·exact hb 1 _ 80 rfl rfl
   ·exact hb 2 _ 81 rfl rfl
   ·exact hb 3 _ 82 rfl rfl
   ·exact hb 4 _ 83 rfl rfl
   ·exact hb 5 _ 84 rfl rfl
   ·exact hb 6 _ 85 rfl rfl
   ·exact hb 7 _ 86 rfl rfl
   ·exact hb 9 _ 87 rfl rfl
   ·exact hb 10 _ 88 rfl rfl
  have ha:=hold_eq (L:=[(79,.pointer (some ⟨b,0,none⟩)),(80,.pointer (some ⟨b,0,none⟩)),(81,.pointer (some ⟨d8,0,none⟩)),(82,.agg #[.int .i64 t.id,.int .i64 t.kind,.int .i64 t.pc,.int .i64 t.a,.int .i64 t.b,.int .i64 t.c,.int .i64 t.d]),(83,.pointer (some ⟨d8,7,none⟩)),(84,.agg #[.int .i64 q.kind,.int .i64 q.obj,.int .i64 q.til]),(85,.pointer (some ⟨b,0,none⟩)),(86,.pointer (some ⟨b,0,none⟩)),(87,.pointer (some ⟨b,0,none⟩)),(88,.pointer (some ⟨b,7,none⟩))]) (S:=List.range' 79 10) (T:=#[.pointer (some ⟨s,0,none⟩),lv,.pointer (some ⟨b,0,none⟩),Jm,J2,Yf,Ye,Qe,.pointer (some ⟨d8,0,none⟩),Y6,J7,Jt,Jp,J4,Jo,Jv,Jx,Jq,Jl,Jr,Yb,Jz,Js,J5,Jn,J3,Ya,Jw,Yd,Jk,J1,Ja,Jh,Jj,Jc,Je,Jf,Jb,Ji,Jd,Jg,Yc,J8,J6,J0,Ju,Jy,J9,Yq,Yv,Yl,Qc,Qb,Y0,Ql,Yt,Y9,Ym,Qg,Ys,Yk,Yx,Qo,Qj,Qf,Yr,Qr,Yw,Y4,Yj,Y5,Qn,Qi,Y7,Yu,Qm,Qa,Yz,Qk,Qq,Qh,Qd,Qp,Yp,Y1,Yn,Yo,Y2,Y3,Y8,Yi,Yy,Yh]) ⟨hds,hsz,hgot,hr⟩ (by show[79,80,81,82,83,84,85,86,87,88].Nodup;decide) (by show∀s∈List.range' 79 10,s∈[79,80,81,82,83,84,85,86,87,88];exact fun _ h=>h) (by simp)
  rw[ha]
  simp only[fin,List.foldl]
  walk_nrm
  refine co_region_end hZ hX ?_
  exact hnext w _ _ _ _ _ _ _ _ _ _ _ _ _ _ _ _ _ _ _ _ _ _ _ _ _ _ _ _ _ _ _ _ _ _ _ _ _ _ _ _ _ _ _ _ _ _ _ _ _ _ _ _ _ _ _ _ _ _ _ _ _ _ _ _ _ _ _ _ _ _ _ _ _ _ _ _ _ _ _ _ _ _ _ _ _ _ _ _ _ e
end Co
end Go.Proofs.Ytlngbdggehghgaa

namespace Go.Proofs.Ytlngbdggehghgaa
set_option linter.unusedSimpArgs false
set_option linter.unusedVariables false
namespace Co
open Go.Conc Go.RowKit
theorem co_call2 {P:Program} {Z:Goal} {h:Nat} {X:Fx} {b:Frame} {a:Act} {k:List Item} {cs:List Frame} {v:World} (hZ:Z.Ok P) (hX:X.Ok P h) {ops:Array Oper} {i:Nat} {rest:List Nat} {o:Oper} {f:FuncId} {fn:Func} {args:Array Operand} {ats:Array TypeId} {vals:Array Value}
 (ho:ops[i]?=some o) (hw:Region.wanted o (yielded ops a.tmps)=true) (hk:b.kind≠.early) (hop:o.op=.call {callee:=.value (.func f),args,argTypes:=ats})
 (hf:P.funcs[f]?=some fn) (hname:(fn.name== "runtime.NumGoroutine")=false) (hb:fn.body.isNone=false) (hv:args.map a.eval=vals)
 (hc:Co P Z h X (G (Frame.enter P f vals .normal) (b.at a (.inRegion ops (i::rest)::k)::cs)) v):Co P Z h X (G (b.at a (.inRegion ops (i::rest)::k)) cs) v:=
 co_still hZ hX rfl (fun w=>⟨_,by
  show listed P b.fn a o w=#[]
  unfold listed;rw[events_call_body hop hf hname hb];exact seen_none P _,stepG_enter ho hw hk (run_call_body hop hf hname hb)⟩) (by rw[hv];exact hc)
set_option maxRecDepth 100000 in
set_option maxHeartbeats 4000000 in
theorem give_end {Z:Goal} {g:Gh} {s b d8:Nat} {lv:Value} {lA:Option Addr} {ln lc:Nat} {t:Tk} {q:Wa} {r:Ru} {v:World} {c:Frame} {cs:List Frame} {Post:Value→Fx→World→Prop}
 (hZ:Z.Ok Try.prog) (hg:g.Ok 0) (k8:Cells v d8 (doneL t q (.slice lA ln lc))) (kb:Cells v b r.cells) (hne:d8≠b)
 (hbegin:∀v',Chg (fun k=>k=d8∨k=b) v v'→Cells v' b (⟨{t with id:=r.task.id},q,r.age⟩:Ru).cells→Calls Try.prog Z 0 (g.fx Try.prog κL 0) 39 #[.pointer (some ⟨s,0,none⟩),.slice lA ln lc] v' fun e X' v''=>e=.tuple #[]∧(∃g',X'=Gh.fx Try.prog κL g' 0∧g'.Ok 0)∧Post (.tuple #[]) X' v'')
 (hpost:∀X' v',Post (.tuple #[]) X' v'→Co Try.prog Z 0 X' (G (c.finish (.tuple #[])) cs) v'):
 ∀(Jm J2 Yf Ye Qe Y6 J7 Jt Jp J4 Jo Jv Jx Jq Jl Jr Yb Jz Js J5 Jn J3 Ya Jw Yd Jk J1 Ja Jh Jj Jc Je Jf Jb Ji Jd Jg Yc J8 J6 J0 Ju Jy J9 Yq Yv Yl Qc Qb Y0 Ql Yt Y9 Ym Qg Ys Yk Yx Qo Qj Qf Yr Qr Yw Y4 Yj Y5 Qn Qi Y7 Yu Qm Qa Yz Qk Qq Qh Qd Qp Yp Y1 Yn Yo Y2 Y3 Y8 Yi Yy Yh:Value),Co Try.prog Z 0 (g.fx Try.prog κL 0) (G ((Go.Conc.base 32).at ⟨#[.pointer (some ⟨s,0,none⟩),lv,.pointer (some ⟨b,0,none⟩),Jm,J2,Yf,Ye,Qe,.pointer (some ⟨d8,0,none⟩),Y6,J7,Jt,Jp,J4,Jo,Jv,Jx,Jq,Jl,Jr,Yb,Jz,Js,J5,Jn,J3,Ya,Jw,Yd,Jk,J1,Ja,Jh,Jj,Jc,Je,Jf,Jb,Ji,Jd,Jg,Yc,J8,J6,J0,Ju,Jy,J9,Yq,Yv,Yl,Qc,Qb,Y0,Ql,Yt,Y9,Ym,Qg,Ys,Yk,Yx,Qo,Qj,Qf,Yr,Qr,Yw,Y4,Yj,Y5,Qn,Qi,Y7,Yu,Qm,Qa,Yz,Qk,Qq,Qh,Qd,Qp,Yp,Y1,Yn,Yo,Y2,Y3,Y8,Yi,Yy,Yh],[]⟩ (.code rest10::[])) (c::cs)) v:=by
 intro Jm J2 Yf Ye Qe Y6 J7 Jt Jp J4 Jo Jv Jx Jq Jl Jr Yb Jz Js J5 Jn J3 Ya Jw Yd Jk J1 Ja Jh Jj Jc Je Jf Jb Ji Jd Jg Yc J8 J6 J0 Ju Jy J9 Yq Yv Yl Qc Qb Y0 Ql Yt Y9 Ym Qg Ys Yk Yx Qo Qj Qf Yr Qr Yw Y4 Yj Y5 Qn Qi Y7 Yu Qm Qa Yz Qk Qq Qh Qd Qp Yp Y1 Yn Yo Y2 Y3 Y8 Yi Yy Yh
 have hX:=hg.fx κL_ok
 have e10:rest10=.seq reg10 (.seq reg11 reg12):=by simp only[reg10,reg11,reg12,rest10,body32,Try.f32,Option.getD_some,fstC,sndC]
 rw[e10]
 refine co_seq hZ hX ?_
 have HB:=Hd.mk hbegin
 have HP:=Hd.mk hpost
 clear hbegin hpost
 have er:reg10=fstC rest10:=rfl
 simp only[reg10,rest10,body32,Try.f32,Option.getD_some,fstC,sndC]
 refine co_code hZ hX TT (by decide) (by kernel_rfl) (by kernel_rfl) fun K hK u hu=> ?_
 have hne2:=Ne.symm hne
 have a8:=(k8.chg (same_chg (F:=fun _=>False) hu) id)
 have y0:=a8.c 0 _ rfl
 have yf:=a8.f 0
 have yl:=a8.lt
 have z0:=(kb.chg (same_chg (F:=fun _=>False) hu) id).c 0 _ rfl
 clear a8
 go_wp2_with fail
 refine hK.out _ _ (co_same (hu.set _ _) ?_)
 clear hK K hu u y0 yf yl z0
 have k9:Cells (v.setCell ⟨d8,0,none⟩ (.int .i64 r.task.id)) d8 (doneL {t with id:=r.task.id} q (.slice lA ln lc)):=by
  have h1:Cells (putAt v d8 0 [.int .i64 r.task.id]) d8 ([]++[.int .i64 r.task.id]++[.int .i64 t.kind,.int .i64 t.pc,.int .i64 t.a,.int .i64 t.b,.int .i64 t.c,.int .i64 t.d,.int .i64 q.kind,.int .i64 q.obj,.int .i64 q.til,.slice lA ln lc]):=Cells.part (l:=[]) (m:=[.int .i64 t.id]) k8 rfl
  exact h1
 have c9:Chg (fun k=>k=d8∨k=b) v (v.setCell ⟨d8,0,none⟩ (.int .i64 r.task.id)):=Chg.set v _ (.inl rfl)
 have kb9:=kb.chg (Chg.set (F:=fun k=>k=d8) v (.int .i64 r.task.id) (a:=⟨d8,0,none⟩) rfl) hne2
 generalize v.setCell ⟨d8,0,none⟩ (.int .i64 r.task.id)=v1 at k9 c9 kb9⊢
 refine co_seq hZ hX ?_
 refine give_write hZ hX k9 kb9 hne (fun v2 Jm J2 Yf Ye Qe Y6 J7 Jt Jp J4 Jo Jv Jx Jq Jl Jr Yb Jz Js J5 Jn J3 Ya Jw Yd Jk J1 Ja Jh Jj Jc Je Jf Jb Ji Jd Jg Yc J8 J6 J0 Ju Jy J9 Yq Yv Yl Qc Qb Y0 Ql Yt Y9 Ym Qg Ys Yk Yx Qo Qj Qf Yr Qr Yw Y4 Yj Y5 Qn Qi Y7 Yu Qm Qa Yz Qk Qq Qh Qd Qp Yp Y1 Yn Yo Y2 Y3 Y8 Yi Yy Yh e2=> ?_) _ _ _ _ _ _ _ _ _ _ _ _ _ _ _ _ _ _ _ _ _ _ _ _ _ _ _ _ _ _ _ _ _ _ _ _ _ _ _ _ _ _ _ _ _ _ _ _ _ _ _ _ _ _ _ _ _ _ _ _ _ _ _ _ _ _ _ _ _ _ _ _ _ _ _ _ _ _ _ _ _ _ _ _ _ _ _ _ _
 have kb0:Cells v1 b ([]++r.task.cells++(r.wait.cells++[.int .i64 r.age])):=by rw[List.nil_append,←List.append_assoc];exact kb9
 have kb1:Cells (putAt v1 b 0 ({t with id:=r.task.id}:Tk).cells) b (([]++({t with id:=r.task.id}:Tk).cells)++r.wait.cells++[.int .i64 r.age]):=by
  rw[List.append_assoc]
  exact kb0.part rfl
 have kb2:Cells (putAt (putAt v1 b 0 ({t with id:=r.task.id}:Tk).cells) b 7 q.cells) b (⟨{t with id:=r.task.id},q,r.age⟩:Ru).cells:=kb1.part rfl
 have g1:=Chg.grown (F:=fun k=>k=b) (grownBy_putAt ({t with id:=r.task.id}:Tk).cells v1 b 0) (fun k e=>(Option.some.inj e).symm)
 have g2:=Chg.grown (F:=fun k=>k=b) (grownBy_putAt q.cells (putAt v1 b 0 ({t with id:=r.task.id}:Tk).cells) b 7) (fun k e=>(Option.some.inj e).symm)
 have cl:=(k9.chg (g1.trans g2 (fun _ _=>id)) hne).c 10 _ rfl
 have c12:Chg (fun k=>k=d8∨k=b) v (putAt (putAt v1 b 0 ({t with id:=r.task.id}:Tk).cells) b 7 q.cells):=(c9.trans g1 (fun _ _=> .inr)).trans g2 (fun _ _=> .inr)
 rw[←e2] at kb2 cl c12
 clear e2 g1 g2 kb0 kb1
 simp only[reg12,rest10,body32,Try.f32,Option.getD_some,fstC,sndC]
 have hJ:=Co.calmly (v:=v2) hZ hX
 refine c_region (n:=0) (J:=fun _ a=>Co Try.prog Z 0 (g.fx Try.prog κL 0) a v2) hJ [0,1,2,3] rfl ?_
 refine co_value hZ hX (.pointer (some ⟨s,0,none⟩)) rfl rfl (by decide) (fun _=>by simp[go_sem,execOp,Act.eval]) (fun _=>by simp[go_sem,execOp,Act.eval]) ?_
 walk_nrm
 refine co_value hZ hX (.pointer (some ⟨d8,10,none⟩)) rfl rfl (by decide) (fun _=>by simp[go_sem,execOp,Act.eval]) (fun _=>by simp[go_sem,execOp,Act.eval]) ?_
 walk_nrm
 refine co_op hZ hX TT.toTable (by decide) (R:=fun y u=>y=.slice lA ln lc∧Same u v2) rfl rfl (by kernel_rfl) (fun u hu=> ?_) (fun y u hh=> ?_)
 ·have hcell:∀a,u.cell? a=v2.cell? a:=fun a=>by unfold World.cell?;rw[hu.heap]
  simp only[←hcell] at cl
  refine⟨_,u, ?_,rfl,hu⟩
  simp[go_sem,execOp,Act.eval,cl]
 obtain⟨rfl,hu⟩:=hh
 refine co_same hu ?_
 clear hu u
 walk_nrm
 refine co_call2 hZ hX rfl rfl (by decide) rfl Try.func39 (by kernel_rfl) (by kernel_rfl) (vals:=#[.pointer (some ⟨s,0,none⟩),.slice lA ln lc]) (by simp[Act.eval]) ?_
 refine HB.out v2 c12 kb2 _ _ fun x X' v3 hq=> ?_
 obtain⟨rfl,⟨g',rfl,hg'⟩,hq⟩:=hq
 have hX':=hg'.fx κL_ok
 rw[Frame.finish_at]
 walk_nrm
 refine co_region_end hZ hX' ?_
 refine co_end hZ hX' ?_
 refine c_leave (n:=0) (J:=fun _ a=>Co Try.prog Z 0 (g'.fx Try.prog κL 0) a v3) (Co.calmly hZ hX') (x:=.tuple #[]) rfl rfl Try.func32 (fun w=>results_none rfl _ _ w) (fun w=>events_results_none rfl _ _) ?_
 exact HP.out _ v3 hq
end Co
end Go.Proofs.Ytlngbdggehghgaa
