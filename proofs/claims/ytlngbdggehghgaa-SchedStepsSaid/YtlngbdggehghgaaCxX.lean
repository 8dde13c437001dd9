/-
  Fair, in company. Conditions: as each theorem says.
  The counting world; what the laws' walks ask of a scheduler. Conditions: as each theorem says.
  What the examples come to; two, awake, in company. Conditions: as each theorem says.
-/
import Derived.Test.YtlngbdggehghgaaCxU
namespace Go.Proofs.Ytlngbdggehghgaa
set_option linter.unusedSimpArgs false
set_option linter.unusedVariables false
def ageOf (S:SS) (k:Nat):Int:=((S.rs[k]?).map (·.age)).getD 0
def fairI (S:SS) (L:List Nat):Nat:=L.foldl (fun b k=>if ageOf S b<ageOf S k then k else b) (L.headD 0)
def fairS (D:Wd):Nat→Nat→SS→RW→(Int×Int)×SS×RW
 |0,i,S,x=>(((i:Int),0),S,x)
 |n+1,i,S,x=>if nextS S D.o x=0 then fairS D n (i+1) (giveS D S x (enI S D.o x) (fairI S (enI S D.o x))).1 (giveS D S x (enI S D.o x) (fairI S (enI S D.o x))).2 else(((i:Int),nextS S D.o x),S,x)
theorem foldl_take {f:Nat→Nat→Nat} {b:Nat} {L:List Nat} {k:Nat} (h:k<L.length):(L.take (k+1)).foldl f b=f ((L.take k).foldl f b) L[k]:=by
 rw[List.take_succ_eq_append_getElem h,List.foldl_append]
 rfl
namespace Co
open Go.Conc Go.RowKit
noncomputable def body12:Code:=Try.f12.body.getD .skip
noncomputable def rest12:Code:=sndC (sndC (sndC body12))
noncomputable def lb12:Code:=inC (inC (sndC (fstC rest12)))
noncomputable def mid12:Code:=sndC (sndC (sndC (inC (fstC (sndC (sndC lb12))))))
noncomputable def old12:Code:=fstC (sndC mid12)
set_option maxRecDepth 100000 in
set_option maxHeartbeats 4000000 in
theorem fair_old {Z:Goal} {X:Fx} {o:Option Nat} {B s st i:Nat} {bs:List Nat} {tv uv lv:Value} {S:SS} {v:World} {L:List Nat} {cs:List Frame} {k:List Item} {b0:Nat}
 (hZ:Z.Ok Try.prog) (hX:X.Ok Try.prog 0) (h:SM o B s bs tv uv S v) (hl:Sl ptR v lv (bxs bs L)) (hL:∀i∈L,i<S.rs.length) (hLl:L.length≤200) (hL0:L.headD 0<S.rs.length) (hb0:bs[L.headD 0]?=some b0)
 {Yq:Value} (hnext:∀(v':World) (b:Nat) (Jf Jg Jq Yl Jw Jm Yi J4 Js J3 Jb J0 J8 Jd Yb Yc J1 Jy Jj J2 Jo Yo Jc Je Jk J7 Jn Yf Ju Yh Jt Jl Yk Jh Yd Yg J9 Ja Yn Ye Yp Ya Ji Jx Jv Jr J5 Ym Yj Jp Jz J6:Value),bs[fairI S L]?=some b→Chg (fun _=>False) v v'→
  Co Try.prog Z 0 X (G ((Go.Conc.base 12).at ⟨#[.pointer (some ⟨s,0,none⟩),.int .i64 (st:Int),Yq,Jf,Jg,Jq,Yl,Jw,lv,Jm,.pointer (some ⟨b,0,none⟩),Yi,J4,Js,J3,Jb,J0,J8,Jd,Yb,.int .i64 (st:Int),.int .i64 (i:Int),Yc,J1,Jy,Jj,J2,Jo,Yo,Jc,Je,Jk,J7,Jn,Yf,Ju,Yh,Jt,Jl,Yk,Jh,Yd,Yg,J9,Ja,Yn,Ye,Yp,Ya,Ji,Jx,Jv,Jr,J5,Ym,Yj,Jp,Jz,J6],[]⟩ k) cs) v'):
 ∀(Jf Jg Jq Yl Jw Jm Yi J4 Js J3 Jb J0 J8 Jd Yb Yc J1 Jy Jj J2 Jo Yo Jc Je Jk J7 Jn Yf Ju Yh Jt Jl Yk Jh Yd Yg J9 Ja Yn Ye Yp Ya Ji Jx Jv Jr J5 Ym Yj Jp Jz J6:Value),Co Try.prog Z 0 X (G ((Go.Conc.base 12).at ⟨#[.pointer (some ⟨s,0,none⟩),.int .i64 (st:Int),Yq,Jf,Jg,Jq,Yl,Jw,lv,Jm,.pointer (some ⟨b0,0,none⟩),Yi,J4,Js,J3,Jb,J0,J8,Jd,Yb,.int .i64 (st:Int),.int .i64 (i:Int),Yc,J1,Jy,Jj,J2,Jo,Yo,Jc,Je,Jk,J7,Jn,Yf,Ju,Yh,Jt,Jl,Yk,Jh,Yd,Yg,J9,Ja,Yn,Ye,Yp,Ya,Ji,Jx,Jv,Jr,J5,Ym,Yj,Jp,Jz,J6],[]⟩ (.code old12::k)) cs) v:=by
 intro Jf Jg Jq Yl Jw Jm Yi J4 Js J3 Jb J0 J8 Jd Yb Yc J1 Jy Jj J2 Jo Yo Jc Je Jk J7 Jn Yf Ju Yh Jt Jl Yk Jh Yd Yg J9 Ja Yn Ye Yp Ya Ji Jx Jv Jr J5 Ym Yj Jp Jz J6
 simp only[old12,mid12,lb12,rest12,body12,Try.f12,Option.getD_some,fstC,sndC,inC]
 refine co_code hZ hX TT (by decide) (by kernel_rfl) (by kernel_rfl) fun K hK u hu=> ?_
 obtain⟨ps,hps⟩:∃ps,ps=bxs bs L:=⟨_,rfl⟩
 rw[←hps] at hl
 have HH:=Lib.hid (h.chg (same_chg (F:=fun _=>False) hu) (fun _ _=>id))
 have hl2:=hl.chg ptR_flat (same_chg (F:=fun _=>False) hu) (fun _ _=>id)
 have HU:=Hd.mk hu
 have HN:=Hd.mk hnext
 have HL:=Lib.hid hL
 have HB0:=Lib.hid hb0
 have H0:=Lib.hid hL0
 have hbl:=Lib.hid h.len
 have hpl:=Lib.hid (show ps.length=L.length by rw[hps];simp[bxs])
 have HPS:=Lib.hid hps
 have hp200:ps.length≤200:=by rw[hpl.out];exact hLl
 clear hu hnext h hl hL hb0 hL0 hps hLl
 obtain⟨lA,lc,rfl,hl1,hl3,hl2⟩:=hl2.open
 have HLS:=Lib.hid hl2
 clear hl2
 go_wp2_with fail
 go_loopw [10,38] (fun ov i₀ wr=> ∃k:Nat,k≤ps.length∧i₀=.int .i64 k∧Hid (Below u.heap.size u wr)∧∃(m b:Nat),ov=.pointer (some ⟨b,0,none⟩)∧Hid (m<S.rs.length)∧Hid (bs[m]?=some b)∧Hid (m=(L.take k).foldl (fun b k=>if ageOf S b<ageOf S k then k else b) (L.headD 0))) (fun _ i₀ _=>ps.length-(intOf i₀).toNat)
 case atStart=>exact⟨0,by omega,rfl,Below.refl _ _,L.headD 0,b0,rfl,H0.out,HB0.out,by show _=_;simp⟩
 case round=>
  obtain⟨k,hk,rfl,hb,m,b,rfl,hm,hbm,hfold⟩:=hrel
  by_cases hlt:k<ps.length
  ·have hltL:k<L.length:=by rw[←hpl.out];exact hlt
   obtain⟨g,off,cs',rfl,_,h2,h3⟩:=HLS.out.at_ hlt
   have hp:=h3 0 _ (by rw[h2];rfl)
   simp only[ptR,Nat.mul_one,Nat.add_zero] at hp
   have hLk:=HL.out _ (List.getElem_mem hltL)
   obtain⟨bk,hbk,kk⟩:=HH.out.run hLk
   have hpk:ps[k]=bk:=by
    have h1:ps[k]?=some bk:=by
     rw[HPS.out]
     unfold bxs
     rw[List.getElem?_map,List.getElem?_eq_getElem hltL]
     show some (bs.getD _ 0)=_
     rw[List.getD_eq_getElem?_getD,hbk]
     rfl
    rw[List.getElem?_eq_getElem hlt] at h1
    exact Option.some.inj h1
   rw[hpk] at hp
   have hp1:=cell_later hb.out hp
   have km:=HH.out.runs m b _ hbm.out (List.getElem?_eq_getElem hm.out)
   have a1:=cell_later hb.out (kk.c 10 _ rfl)
   have a2:=cell_later hb.out (km.c 10 _ rfl)
   have hf:=Lib.hid (show(L.take (k+1)).foldl (fun b k=>if ageOf S b<ageOf S k then k else b) (L.headD 0)=if ageOf S m<ageOf S L[k] then L[k] else m by rw[foldl_take hltL,←hfold.out])
   have ha1:ageOf S m=(S.rs[m]'hm.out).age:=by unfold ageOf;rw[List.getElem?_eq_getElem hm.out];rfl
   have ha2:ageOf S L[k]=(S.rs[L[k]]'hLk).age:=by unfold ageOf;rw[List.getElem?_eq_getElem hLk];rfl
   rw[←ha1] at a2
   rw[←ha2] at a1
   have HLk:=Lib.hid hLk
   have Hbk:=Lib.hid hbk
   generalize ageOf S m=am at a2 hf
   generalize ageOf S L[k]=ak at a1 hf
   clear ha1 ha2 km kk hpk hbk hLk h2 h3 hp
   by_cases hq:am<ak
   ·have Hq:=Lib.hid hq
    go_wp2_with fail
    go_quiet (fail)
    go_wp2_with fail
    go_roundw
    case rel=>exact⟨k+1,by omega,by go_num,bdN hb.out _,L[k],bk,rfl,HLk.out,Hbk.out,by show _=_;rw[hf.out,if_pos Hq.out]⟩
    case measure=>simp[intOf];omega
   ·have Hq:=Lib.hid hq
    go_wp2_with fail
    go_quiet (fail)
    go_wp2_with fail
    go_roundw
    case rel=>exact⟨k+1,by omega,by go_num,bdN hb.out _,m,b,rfl,hm.out,hbm.out,by show _=_;rw[hf.out,if_neg (by have:=Hq.out;omega)]⟩
    case measure=>simp[intOf];omega
  ·have hke:k=ps.length:=by omega
   have HK:=Lib.hid hke
   clear hke
   go_wp2_with fail
   refine hK.out _ _ ?_
   have hfm:fairI S L=m:=by
    have h1:=hfold.out
    rw[HK.out,hpl.out,List.take_length] at h1
    exact h1.symm
   exact HN.out wr b _ _ _ _ _ _ _ _ _ _ _ _ _ _ _ _ _ _ _ _ _ _ _ _ _ _ _ _ _ _ _ _ _ _ _ _ _ _ _ _ _ _ _ _ _ _ _ _ _ _ _ _ (by rw[hfm];exact hbm.out) ((same_chg HU.out).trans (Chg.of_below hb.out) (fun _ _=>id))
set_option maxRecDepth 100000 in
set_option maxHeartbeats 4000000 in
theorem fair_loop {Z:Goal} {D:Wd} {B s st:Nat} {c:Frame} {cs:List Frame} (hD:Wd.Ok D) (hZ:Z.Ok Try.prog) (hst:st≤1000000) {Yq:Value}:
 ∀(m i:Nat),i+m=st→∀{g:Gh} {bs:List Nat} {S:SS} {x:RW} {M:Nat→Prop} {v:World},Sch D B g s bs S x M v→S.closed=false→
 (∀X' v',Aft D B s bs (fairS D m i S x).2.1 (fairS D m i S x).2.2 M v X' v'→Co Try.prog Z 0 X' (G (c.finish (.tuple #[.int .i64 (fairS D m i S x).1.1,.int .i64 (fairS D m i S x).1.2])) cs) v')→
 ∀(Jf Jg Jq Yl Jw Yr Jm Ys Yi J4 Js J3 Jb J0 J8 Jd Yb Yc J1 Jy Jj J2 Jo Yo Jc Je Jk J7 Jn Yf Ju Yh Jt Jl Yk Jh Yd Yg J9 Ja Yn Ye Yp Ya Ji Jx Jv Jr J5 Ym Yj Jp Jz J6:Value),Co Try.prog Z 0 (g.fx Try.prog κL 0) (G ((Go.Conc.base 12).at ⟨#[.pointer (some ⟨s,0,none⟩),.int .i64 (st:Int),Yq,Jf,Jg,Jq,Yl,Jw,Yr,Jm,Ys,Yi,J4,Js,J3,Jb,J0,J8,Jd,Yb,.int .i64 (st:Int),.int .i64 (i:Int),Yc,J1,Jy,Jj,J2,Jo,Yo,Jc,Je,Jk,J7,Jn,Yf,Ju,Yh,Jt,Jl,Yk,Jh,Yd,Yg,J9,Ja,Yn,Ye,Yp,Ya,Ji,Jx,Jv,Jr,J5,Ym,Yj,Jp,Jz,J6],[]⟩ (.code lb12:: .inLoop lb12:: .inBlock 0:: .code (sndC rest12)::[])) (c::cs)) v:=by
 intro m
 induction m with
 |zero=>
  intro i hi g bs S x M v h hop hpost Jf Jg Jq Yl Jw Yr Jm Ys Yi J4 Js J3 Jb J0 J8 Jd Yb Yc J1 Jy Jj J2 Jo Yo Jc Je Jk J7 Jn Yf Ju Yh Jt Jl Yk Jh Yd Yg J9 Ja Yn Ye Yp Ya Ji Jx Jv Jr J5 Ym Yj Jp Jz J6
  have hX:(g.fx Try.prog κL 0).Ok Try.prog 0:=by obtain⟨_,_,_,cr,_⟩:=h;exact cr.ok.fx κL_ok
  have hie:i=st:=by omega
  subst hie
  have HP:=Hd.mk hpost
  have HS:=Hd.mk h
  clear hpost h
  simp only[lb12,rest12,body12,Try.f12,Option.getD_some,fstC,sndC,inC]
  refine co_seq hZ hX ?_
  refine co_code hZ hX TT (by decide) (by kernel_rfl) (by kernel_rfl) fun K hK u hu=> ?_
  go_wp2_with fail
  refine hK.out _ _ (co_same hu ?_)
  clear hK K hu u
  refine co_seq hZ hX ?_
  refine co_cond (t:=false) hZ hX (by simp[Act.eval]) ?_
  simp only[Bool.false_eq_true,↓reduceIte]
  refine co_exit hZ hX rfl ?_
  refine co_seq hZ hX ?_
  refine co_code hZ hX TT (by decide) (by kernel_rfl) (by kernel_rfl) fun K hK u hu=> ?_
  go_wp2_with fail
  refine hK.out _ _ (co_same hu ?_)
  clear hK K hu u
  refine co_ret hZ hX ?_
  refine c_leave (n:=0) (J:=fun _ a=>Co Try.prog Z 0 (g.fx Try.prog κL 0) a v) (Co.calmly hZ hX) (x:=.tuple #[.int .i64 (i:Int),.int .i64 0]) rfl rfl Try.func12 (fun w=>by simp[results,Try.results12,go_sem]) (fun w=>by simp[results,Try.results12,go_sem]) ?_
  exact HP.out _ v (Aft.still hD HS.out (Chg.refl _ _))
 |succ m ih=>
  intro i hi g bs S x M v h hop hpost Jf Jg Jq Yl Jw Yr Jm Ys Yi J4 Js J3 Jb J0 J8 Jd Yb Yc J1 Jy Jj J2 Jo Yo Jc Je Jk J7 Jn Yf Ju Yh Jt Jl Yk Jh Yd Yg J9 Ja Yn Ye Yp Ya Ji Jx Jv Jr J5 Ym Yj Jp Jz J6
  have HS:=Hd.mk h
  obtain⟨tv,uv,F,cr,hSM,hm,hsep,hinv,hM⟩:=h
  have hX:=cr.ok.fx κL_ok
  have H1:=Hd.mk hSM
  have H2:=Hd.mk hm
  have H3:=Hd.mk hinv
  clear hSM hm hinv hM hsep
  have hil:i<st:=by omega
  have HP:=Hd.mk hpost
  clear hpost
  have IH:=Hd.mk ih
  clear ih
  have elb:lb12=.seq (fstC lb12) (.seq (fstC (sndC lb12)) (.seq (.block 1 (.seq (fstC (inC (fstC (sndC (sndC lb12))))) (.seq (fstC (sndC (inC (fstC (sndC (sndC lb12)))))) (.seq (fstC (sndC (sndC (inC (fstC (sndC (sndC lb12))))))) mid12)))) (sndC (sndC (sndC lb12))))):=by
   simp only[mid12,lb12,rest12,body12,Try.f12,Option.getD_some,fstC,sndC,inC]
  have emid:mid12=.seq (fstC mid12) (.seq old12 (sndC (sndC mid12))):=by
   simp only[old12,mid12,lb12,rest12,body12,Try.f12,Option.getD_some,fstC,sndC,inC]
  conv=>arg 5;arg 1;arg 3;arg 1;rw[elb]
  simp only[lb12,rest12,body12,Try.f12,Option.getD_some,fstC,sndC,inC] at IH⊢
  refine co_seq hZ hX ?_
  refine co_code hZ hX TT (by decide) (by kernel_rfl) (by kernel_rfl) fun K hK u hu=> ?_
  go_wp2_with fail
  refine hK.out _ _ (co_same hu ?_)
  clear hK K hu u
  refine co_seq hZ hX ?_
  refine co_cond (t:=true) hZ hX (by simp[Act.eval];try omega) ?_
  simp only[↓reduceIte]
  refine co_skip hZ hX ?_
  refine co_seq hZ hX ?_
  refine co_block hZ hX ?_
  refine co_seq hZ hX ?_
  refine co_code hZ hX TT (by decide) (by kernel_rfl) (by kernel_rfl) fun K hK u hu=> ?_
  go_wp2_with fail
  refine hK.out _ _ (co_same hu ?_)
  clear hK K hu u
  refine co_seq hZ hX ?_
  refine co_code hZ hX TT (by decide) (by kernel_rfl) (by kernel_rfl) fun K hK u hu=> ?_
  have C2:=Hd.mk (same_chg (F:=fun _=>False) hu)
  have R:=Lib.hid (next_any x (H1.out.chg C2.out (fun _ _=>id)) (hD.en (hD.keep H2.out C2.out (fun _ _=>id))) (hD.obj H3.out))
  clear hu
  go_wp2_with (go_at_call 31;refine R.out.mono ?_;rintro e v2 ⟨lv,rfl,hown,hb2⟩;generalize hps:(if nextS S D.o x=0 then bxs bs (enI S D.o x) else[])=ps at hown;have HPS:=Lib.hid hps;clear hps;obtain⟨lA,lc,rfl,hlc1,hlc2,hown⟩:=hown.form;have HO:=Lib.hid hown;have HB2:=Lib.hid hb2;clear hown hb2)
  refine hK.out _ _ ?_
  have C3:=Hd.mk (C2.out.trans (Chg.of_below (F:=fun _=>False) HB2.out) (fun _ _=>id))
  have hvu:v.heap.size≤u.heap.size:=C2.out.size
  have hvk:∀k,(Value.slice lA ps.length lc).ownBlock=some k→v.heap.size≤k:=fun k hk=>Nat.le_trans hvu (HO.out.lt k hk).1
  have HO2:=Lib.hid HO.out.sl
  clear hK K R HO C2 HB2 hvu
  refine co_seq hZ hX ?_
  refine co_seq hZ hX ?_
  refine co_code hZ hX TT (by decide) (by kernel_rfl) (by kernel_rfl) fun K hK u hu=> ?_
  go_wp2_with fail
  refine hK.out _ _ (co_same hu ?_)
  clear hK K hu
  by_cases hn:nextS S D.o x=0
  ·have hr:fairS D (m+1) i S x=fairS D m (i+1) (giveS D S x (enI S D.o x) (fairI S (enI S D.o x))).1 (giveS D S x (enI S D.o x) (fairI S (enI S D.o x))).2:=by rw[fairS,if_pos hn]
   rw[hr] at HP
   refine co_cond (t:=false) hZ hX (by simp[Act.eval,hn]) ?_
   simp only[Bool.false_eq_true,↓reduceIte]
   refine co_skip hZ hX ?_
   have hne:enI S D.o x≠[]:=fun e=>by unfold nextS at hn;rw[if_pos e] at hn;split at hn<;>simp at hn
   have hturn:(S.turns.length:Int)<S.most:=by
    unfold nextS at hn
    by_cases e:S.most≤(S.turns.length:Int)
    ·rw[if_pos e] at hn;cases hn
    ·omega
   have hps2:ps=bxs bs (enI S D.o x):=by have:=HPS.out;rw[if_pos hn] at this;exact this.symm
   have hEl:=enI_lt S D.o x
   have hlen:(enI S D.o x).length≤200:=Nat.le_trans (plc_len _ _ _) H1.out.ok.few
   generalize enI S D.o x=L at hne hps2 hEl hlen HP hn
   have hpl:ps.length=L.length:=by rw[hps2];simp[bxs]
   have hhd:L.headD 0∈L:=by
    cases L with
    |nil=>exact absurd rfl hne
    |cons y L=>exact List.mem_cons_self
   have hL0:=hEl _ hhd
   obtain⟨b0,hb0,-⟩:=H1.out.run hL0
   have hpos:0<ps.length:=by rw[hpl];exact List.length_pos_iff.2 hne
   have hp0:ps[0]=b0:=by
    have h1:ps[0]?=some b0:=by
     rw[hps2]
     unfold bxs
     rw[List.getElem?_map]
     cases L with
     |nil=>exact absurd rfl hne
     |cons y L=>
      show some (bs.getD y 0)=_
      have hb1:bs[y]?=some b0:=hb0
      rw[List.getD_eq_getElem?_getD,hb1]
      rfl
    rw[List.getElem?_eq_getElem hpos] at h1
    exact Option.some.inj h1
   obtain⟨bl,off,cc,rfl,hbl,hcc,hat⟩:=HO2.out.at_ hpos
   have hp:=hat 0 _ (by rw[show cc=_ from hcc];rfl)
   simp only[ptR,Nat.zero_mul,Nat.add_zero] at hp
   rw[hp0] at hp
   have HHN:=Hd.mk hne
   have HHB:=Hd.mk hb0
   have HPP:=Hd.mk hps2
   have HEL:=Hd.mk hEl
   have HHL:=Hd.mk hlen
   have HL0:=Hd.mk hL0
   have HPL:=Hd.mk hpl
   clear hat hcc hp0 hb0 hhd hL0 hps2 hpl hEl hlen hne hn
   rw[emid]
   refine co_seq hZ hX ?_
   have e12:fstC mid12=.region 12 (opsC (fstC mid12)) false:=by simp only[mid12,lb12,rest12,body12,Try.f12,Option.getD_some,fstC,sndC,inC,opsC]
   rw[e12]
   simp only[mid12,lb12,rest12,body12,Try.f12,Option.getD_some,fstC,sndC,inC,opsC]
   refine co_code hZ hX TT (by decide) (by kernel_rfl) (by kernel_rfl) fun K hK u hu=> ?_
   have hp2:u.cell? ⟨bl,off,none⟩=some (.pointer (some ⟨b0,0,none⟩)):=by unfold World.cell?;rw[hu.heap];exact hp
   go_wp2_with fail
   refine hK.out _ _ (co_same hu ?_)
   clear hK K hu hp2 hp
   refine co_seq hZ hX ?_
   refine fair_old (st:=st) (i:=i) (o:=D.o) (B:=B) (L:=L) hZ hX (H1.out.chg C3.out (fun _ _=>id)) (by rw[←HPP.out];exact HO2.out) HEL.out HHL.out HL0.out HHB.out (fun v3 b Jf Jg Jq Yl Jw Jm Yi J4 Js J3 Jb J0 J8 Jd Yb Yc J1 Jy Jj J2 Jo Yo Jc Je Jk J7 Jn Yf Ju Yh Jt Jl Yk Jh Yd Yg J9 Ja Yn Ye Yp Ya Ji Jx Jv Jr J5 Ym Yj Jp Jz J6 hb hc3=> ?_) _ _ _ _ _ _ _ _ _ _ _ _ _ _ _ _ _ _ _ _ _ _ _ _ _ _ _ _ _ _ _ _ _ _ _ _ _ _ _ _ _ _ _ _ _ _ _ _ _ _ _ _
   have C4:=Hd.mk (C3.out.trans hc3 (fun _ _=>id))
   refine c_region (n:=0) (J:=fun _ a=>Co Try.prog Z 0 (g.fx Try.prog κL 0) a v3) (Co.calmly hZ hX) [0,1,2,3] rfl ?_
   refine co_value hZ hX (.pointer (some ⟨s,0,none⟩)) rfl rfl (by decide) (fun _=>by simp[go_sem,execOp,Act.eval]) (fun _=>by simp[go_sem,execOp,Act.eval]) ?_
   walk_nrm
   refine co_value hZ hX (.slice (some ⟨bl,off,none⟩) ps.length lc) rfl rfl (by decide) (fun _=>by simp[go_sem,execOp,Act.eval]) (fun _=>by simp[go_sem,execOp,Act.eval]) ?_
   walk_nrm
   refine co_value hZ hX (.pointer (some ⟨b,0,none⟩)) rfl rfl (by decide) (fun _=>by simp[go_sem,execOp,Act.eval]) (fun _=>by simp[go_sem,execOp,Act.eval]) ?_
   walk_nrm
   refine co_call2 hZ hX rfl rfl (by decide) rfl Try.func32 (by kernel_rfl) (by kernel_rfl) (vals:=#[.pointer (some ⟨s,0,none⟩),.slice (some ⟨bl,off,none⟩) ps.length lc,.pointer (some ⟨b,0,none⟩)]) (by simp[Act.eval]) ?_
   have hbs:∀k∈bs,k<v.heap.size:=fun k hk=>(H1.out.lt k (.inr (.inl hk))).2
   refine give_co (L:=L) (i:=fairI S L) hD hZ (HS.out.chg hD C4.out (fun _ _=>id)) (by rw[←HPP.out];exact HO2.out.chg ptR_flat hc3 (fun _ _=>id)) HEL.out HHL.out hb (fun k hk hm=>by have:=hvk k hk;have:=hbs k hm;omega) hturn _ _ fun e X' v4 hq=> ?_
   obtain⟨rfl,g1,bs1,M1,rfl,hS1,hc1,hM1,hb1⟩:=hq
   have hX1:(g1.fx Try.prog κL 0).Ok Try.prog 0:=by obtain⟨_,_,_,cr1,_⟩:=hS1;exact cr1.ok.fx κL_ok
   rw[Frame.finish_at]
   walk_nrm
   refine co_region_end hZ hX1 ?_
   refine co_inBlock hZ hX1 ?_
   refine co_code hZ hX1 TT (by decide) (by kernel_rfl) (by kernel_rfl) fun K hK u hu=> ?_
   go_wp2_with fail
   refine hK.out _ _ (co_same hu ?_)
   clear hK K hu
   refine co_inLoop hZ hX1 ?_
   exact IH.out (i+1) (by omega) hS1 (by rw[giveS_closed];exact hop) (fun X' v' hA=>HP.out X' v' (Aft.pre C4.out (Aft.trans (S1:=S) (x1:=x) hc1 hM1 hb1 hA))) _ _ _ _ _ _ _ _ _ _ _ _ _ _ _ _ _ _ _ _ _ _ _ _ _ _ _ _ _ _ _ _ _ _ _ _ _ _ _ _ _ _ _ _ _ _ _ _ _ _ _ _ _ _
  ·have hr:fairS D (m+1) i S x=(((i:Int),nextS S D.o x),S,x):=by rw[fairS,if_neg hn]
   rw[hr] at HP
   refine co_cond (t:=true) hZ hX (by simp[Act.eval,hn]) ?_
   simp only[↓reduceIte]
   refine co_seq hZ hX ?_
   refine co_code hZ hX TT (by decide) (by kernel_rfl) (by kernel_rfl) fun K hK u hu=> ?_
   go_wp2_with fail
   refine hK.out _ _ (co_same hu ?_)
   clear hK K hu
   refine co_ret hZ hX ?_
   refine c_leave (n:=0) (J:=fun _ a=>Co Try.prog Z 0 (g.fx Try.prog κL 0) a v2) (Co.calmly hZ hX) (x:=.tuple #[.int .i64 (i:Int),.int .i64 (nextS S D.o x)]) rfl rfl Try.func12 (fun w=>by simp[results,Try.results12,go_sem]) (fun w=>by simp[results,Try.results12,go_sem]) ?_
   exact HP.out _ v2 (Aft.still hD HS.out C3.out)
def FairS (D:Wd) (n:Int) (S:SS) (x:RW):(Int×Int)×SS×RW:=if n<0 then((0,7),S,x) else fairS D n.toNat 0 S x
set_option maxRecDepth 100000 in
set_option maxHeartbeats 4000000 in
theorem Fair_co {Z:Goal} {D:Wd} {g:Gh} {B s:Nat} {bs:List Nat} {S:SS} {x:RW} {M:Nat→Prop} {v:World} {n:Int} (hD:Wd.Ok D) (hZ:Z.Ok Try.prog) (h:Sch D B g s bs S x M v) (hop:S.closed=false) (hn:n≤1000000):
 Calls Try.prog Z 0 (g.fx Try.prog κL 0) 12 #[.pointer (some ⟨s,0,none⟩),.int .i64 n] v fun e X' v'=>e=.tuple #[.int .i64 (FairS D n S x).1.1,.int .i64 (FairS D n S x).1.2]∧Aft D B s bs (FairS D n S x).2.1 (FairS D n S x).2.2 M v X' v':=by
 intro c cs hpost
 have HP:=Hd.mk hpost
 have HS:=Hd.mk h
 clear hpost
 obtain⟨tv,uv,F,cr,hSM,hm,hsep,hinv,hM⟩:=h
 have hX:=cr.ok.fx κL_ok
 have H1:=Hd.mk hSM
 clear hSM hm hinv hM hsep
 rw[enter_at _ Try.func12 (by kernel_rfl:Try.f12.body=some body12),Try.ntmps12]
 walk_nrm
 have e12:body12=.seq (fstC body12) (.seq (fstC (sndC body12)) (.seq (fstC (sndC (sndC body12))) rest12)):=by simp only[rest12,body12,Try.f12,Option.getD_some,fstC,sndC]
 have er12:rest12=.seq (.seq (fstC (fstC rest12)) (.block 0 (.loop lb12))) (sndC rest12):=by simp only[lb12,rest12,body12,Try.f12,Option.getD_some,fstC,sndC,inC]
 rw[e12]
 refine co_seq hZ hX ?_
 simp only[body12,Try.f12,Option.getD_some,fstC,sndC]
 refine co_code hZ hX TT (by decide) (by kernel_rfl) (by kernel_rfl) fun K hK u hu=> ?_
 go_wp2_with fail
 refine hK.out _ _ (co_same hu ?_)
 clear hK K hu u
 refine co_seq hZ hX ?_
 refine co_seq hZ hX ?_
 refine co_code hZ hX TT (by decide) (by kernel_rfl) (by kernel_rfl) fun K hK u hu=> ?_
 have R:=Lib.hid (ready_any (H1.out.chg (same_chg (F:=fun _=>False) hu) (fun _ _=>id)))
 have C0:=Hd.mk (same_chg (F:=fun _=>False) hu)
 have hr0:readyS S=0:=by simp[readyS,hop]
 rw[hr0] at R
 clear hu
 go_wp2_with (go_at_call 30;refine R.out.mono ?_;rintro e v1 ⟨rfl,hb1⟩)
 refine hK.out _ _ ?_
 have C1:=Hd.mk (C0.out.trans (Chg.of_below (F:=fun _=>False) hb1) (fun _ _=>id))
 clear hK K R C0 hb1 u
 refine co_seq hZ hX ?_
 refine co_code hZ hX TT (by decide) (by kernel_rfl) (by kernel_rfl) fun K hK u hu=> ?_
 go_wp2_with fail
 refine hK.out _ _ (co_same hu ?_)
 clear hK K hu u
 refine co_cond (t:=false) hZ hX (by simp[Act.eval]) ?_
 simp only[Bool.false_eq_true,↓reduceIte]
 refine co_skip hZ hX ?_
 refine co_seq hZ hX ?_
 refine co_seq hZ hX ?_
 refine co_code hZ hX TT (by decide) (by kernel_rfl) (by kernel_rfl) fun K hK u hu=> ?_
 go_wp2_with fail
 refine hK.out _ _ (co_same hu ?_)
 clear hK K hu u
 by_cases hn0:n<0
 ·refine co_cond (t:=true) hZ hX (by simp[Act.eval,hn0]) ?_
  simp only[↓reduceIte]
  refine co_seq hZ hX ?_
  refine co_code hZ hX TT (by decide) (by kernel_rfl) (by kernel_rfl) fun K hK u hu=> ?_
  go_wp2_with fail
  refine hK.out _ _ (co_same hu ?_)
  clear hK K hu u
  refine co_ret hZ hX ?_
  refine c_leave (n:=0) (J:=fun _ a=>Co Try.prog Z 0 (g.fx Try.prog κL 0) a v1) (Co.calmly hZ hX) (x:=.tuple #[.int .i64 0,.int .i64 7]) rfl rfl Try.func12 (fun w=>by simp[results,Try.results12,go_sem]) (fun w=>by simp[results,Try.results12,go_sem]) ?_
  have hf:FairS D n S x=((0,7),S,x):=by unfold FairS;rw[if_pos hn0]
  refine HP.out _ _ v1 ⟨by rw[hf], ?_⟩
  rw[hf]
  exact Aft.still hD HS.out C1.out
 have hf:FairS D n S x=fairS D n.toNat 0 S x:=by unfold FairS;rw[if_neg hn0]
 rw[hf] at HP
 refine co_cond (t:=false) hZ hX (by simp[Act.eval];omega) ?_
 simp only[Bool.false_eq_true,↓reduceIte]
 refine co_skip hZ hX ?_
 obtain⟨st,rfl⟩:∃st:Nat,n=(st:Int):=⟨n.toNat,by omega⟩
 rw[Int.toNat_natCast] at HP
 rw[er12]
 refine co_seq hZ hX ?_
 refine co_seq hZ hX ?_
 have er0:fstC (fstC rest12)=.region 6 (opsC (fstC (fstC rest12))) false:=by simp only[rest12,body12,Try.f12,Option.getD_some,fstC,sndC,opsC]
 rw[er0]
 refine co_code hZ hX TT (by decide) (by kernel_rfl) (by kernel_rfl) fun K hK u hu=> ?_
 simp only[rest12,body12,Try.f12,Option.getD_some,fstC,sndC,opsC] at hK⊢
 go_wp2_with fail
 refine hK.out _ _ (co_same hu ?_)
 clear hK K hu u
 refine co_block hZ hX ?_
 refine co_loop hZ hX ?_
 have HR:=fair_loop (c:=c) (cs:=cs) (Yq:=undef) hD hZ (by omega:st≤1000000) st 0 (by omega) (HS.out.chg hD C1.out (fun _ _=>id)) hop (fun X' v' hA=>HP.out _ X' v' ⟨rfl,Aft.pre C1.out hA⟩)
 simp only[rest12,body12,Try.f12,Option.getD_some,fstC,sndC] at HR
 exact HR _ _ _ _ _ _ _ _ _ _ _ _ _ _ _ _ _ _ _ _ _ _ _ _ _ _ _ _ _ _ _ _ _ _ _ _ _ _ _ _ _ _ _ _ _ _ _ _ _ _ _ _ _ _
end Co
end Go.Proofs.Ytlngbdggehghgaa

namespace Go.Proofs.Ytlngbdggehghgaa
set_option linter.unusedSimpArgs false
set_option linter.unusedVariables false
def D0:Wd where
 o:=none
 mem:=fun _ F _=> ∀k,¬F k
 st:=fun x t=>((st0 t).1,(st0 t).2,[],x)
 inv:=fun _ S=> ∀r∈S.rs,0≤r.wait.obj
def x0:RW:=⟨[],[],[],[],[],[]⟩
theorem begS_all {p:Ru→Prop} (hp:∀n t,p (newR n t)) (l:List Tk):∀S:SS,(∀r∈S.rs,p r)→∀r∈(begS S l).rs,p r:=by
 induction l with
 |nil=>exact fun S h=>h
 |cons t l ih=>
  intro S h
  rw[Co.begS_cons]
  refine ih _ ?_
  split
  ·intro r hr
   rcases List.mem_append.1 hr with hr|hr
   ·exact h r hr
   ·obtain rfl:=List.mem_singleton.1 hr
    exact hp _ _
  ·exact h
theorem giveS_all {D:Wd} {S:SS} {x:RW} {L:List Nat} {i:Nat} {p:Ru→Prop} (hp:∀n t,p (newR n t)) (ha:∀r a,p r→p {r with age:=a}) (hs:∀r,S.rs[i]?=some r→p ⟨{(D.st x r.task).1 with id:=r.task.id},(D.st x r.task).2.1,0⟩) (h:∀r∈S.rs,p r):∀r∈(giveS D S x L i).1.rs,p r:=by
 unfold giveS
 cases hi:S.rs[i]? with
 |none=>exact h
 |some r=>
  refine begS_all hp _ _ fun r' hr'=> ?_
  rcases List.mem_or_eq_of_mem_set hr' with hr'|rfl
  ·obtain⟨k,hk⟩:=List.getElem?_of_mem hr'
   unfold agedL at hk
   rw[List.getElem?_mapIdx] at hk
   obtain⟨r0,h1,rfl⟩:=Option.map_eq_some_iff.1 hk
   exact ha _ _ (h r0 (List.mem_of_getElem? h1))
  ·exact hs r hi
namespace Co
open Go.Conc Go.RowKit
theorem D0_ok:Wd.Ok D0 where
 keep:=fun h _ _=>h
 lt:=fun h k hk=>absurd hk (h k)
 en:=fun {x F w} _=>en_none x
 obj:=fun h=>h
 step:=fun {x F w S i r} hm _ _ _ _=>by
  show StepC none r.task (st0 r.task).1 (st0 r.task).2 _ w
  unfold StepC
  refine(step_none r.task w).mono fun e w' h=> ?_
  obtain⟨rfl,hb⟩:=h
  exact⟨none,0,0,rfl,⟨⟨none,0,0,rfl⟩,Chg.of_below hb,Nat.zero_le _,(Own.nil tkR 35 0 w').sl,fun k hk=>by simp[Value.ownBlock] at hk,F,hm,fun k hk=> .inl hk⟩⟩
 next:=fun {x S L i} h _ _ _=>giveS_all (fun _ _=>Int.le_refl _) (fun _ _ h=>h) (fun r _=>by
  show 0≤(st0 r.task).2.obj
  unfold st0
  simp only
  split<;>exact Int.le_refl _) h
structure Liv (D:Wd) (B:Nat) (g:Gh) (s:Nat) (bs:List Nat) (S:SS) (x:RW) (M:Nat→Prop) (v:World):Prop where
 sch:Sch D B g s bs S x M v
 lt:∀k,M k→k<v.heap.size
theorem Sch.tight {D:Wd} (hD:Wd.Ok D) {B s:Nat} {g:Gh} {bs:List Nat} {S:SS} {x:RW} {M:Nat→Prop} {v:World} (h:Sch D B g s bs S x M v):∃M₀:Nat→Prop,(∀k,M₀ k→M k)∧Liv D B g s bs S x M₀ v:=by
 obtain⟨tv,uv,F,h1,h2,h3,h4,h5,h6⟩:=h
 exact⟨fun k=>SMf s bs tv uv k∨F k,h6,⟨tv,uv,F,h1,h2,h3,h4,h5,fun _ h=>h⟩,fun k hk=>hk.elim (fun e=>(h2.lt k e).2) (hD.lt h3 k)⟩
theorem Aft.open {D:Wd} (hD:Wd.Ok D) {B s:Nat} {bs:List Nat} {S:SS} {x:RW} {M:Nat→Prop} {v v':World} {X':Fx} (h:Aft D B s bs S x M v X' v'):
 ∃(g':Gh) (bs':List Nat) (M':Nat→Prop),X'=g'.fx Try.prog κL 0∧Liv D B g' s bs' S x M' v'∧Chg M v v'∧∀k,M' k→M k∨v.heap.size≤k:=by
 obtain⟨g',bs',M',e,h1,h2,h3,_⟩:=h
 obtain⟨M₀,h5,h6⟩:=h1.tight hD
 exact⟨g',bs',M₀,e,h6,h2,fun k hk=>h3 k (h5 k hk)⟩
theorem Liv.still {D:Wd} (hD:Wd.Ok D) {B s:Nat} {g:Gh} {bs:List Nat} {S:SS} {x:RW} {M:Nat→Prop} {v w:World} (h:Liv D B g s bs S x M v) (c:Chg (fun _=>False) v w):Liv D B g s bs S x M w:=
 ⟨h.sch.chg hD c (fun _ _=>id),fun k hk=>Nat.lt_of_lt_of_le (h.lt k hk) c.size⟩
theorem Liv.ok {D:Wd} {B s:Nat} {g:Gh} {bs:List Nat} {S:SS} {x:RW} {M:Nat→Prop} {v:World} (h:Liv D B g s bs S x M v):(g.fx Try.prog κL 0).Ok Try.prog 0:=by
 obtain⟨_,_,_,cr,_⟩:=h.sch
 exact cr.ok.fx κL_ok
theorem Liv.sm {D:Wd} {B s:Nat} {g:Gh} {bs:List Nat} {S:SS} {x:RW} {M:Nat→Prop} {v:World} (h:Liv D B g s bs S x M v):∃tv uv F,SM D.o B s bs tv uv S v∧D.mem x F v∧D.inv x S:=by
 obtain⟨tv,uv,F,_,h2,h3,_,h5,_⟩:=h.sch
 exact⟨tv,uv,F,h2,h3,h5⟩
structure Bes {α:Type} (R:Rep α) (M:Nat→Prop) (v:World) (lv:Value) (l:List α):Prop where
 sl:Sl R v lv l
 far:∀k,lv.ownBlock=some k→¬M k∧k<v.heap.size
theorem Bes.up {α:Type} {R:Rep α} (hR:R.flat) {M M':Nat→Prop} {v v':World} {lv:Value} {l:List α} (h:Bes R M v lv l) (c:Chg M v v') (hM:∀k,M' k→M k∨v.heap.size≤k):Bes R M' v' lv l:=
 ⟨h.sl.chg hR c fun k hk=>(h.far k hk).1,fun k hk=>⟨fun e=>(hM k e).elim (h.far k hk).1 fun e=>by have:=(h.far k hk).2;omega,Nat.lt_of_lt_of_le (h.far k hk).2 c.size⟩⟩
theorem Bes.still {α:Type} {R:Rep α} (hR:R.flat) {M:Nat→Prop} {v v':World} {lv:Value} {l:List α} (h:Bes R M v lv l) (c:Chg (fun _=>False) v v'):Bes R M v' lv l:=
 ⟨h.sl.chg hR c fun _ _=>id,fun k hk=>⟨(h.far k hk).1,Nat.lt_of_lt_of_le (h.far k hk).2 c.size⟩⟩
theorem Bes.new {α:Type} {R:Rep α} {M:Nat→Prop} {v w:World} {e:TypeId} {lv:Value} {l:List α} (hM:∀k,M k→k<v.heap.size) (h:Own R e v.heap.size w lv l):Bes R M w lv l:=
 ⟨h.sl,fun k hk=>⟨fun e=>by have:=hM k e;have:=(h.lt k hk).1;omega,(h.lt k hk).2⟩⟩
structure Kp (B:Nat) (v w:World):Prop where
 chg:Chg (fun k=>B≤k) v w
 le:B≤w.heap.size
theorem Kp.refl (v:World):Kp v.heap.size v v:=⟨Chg.refl _ _,Nat.le_refl _⟩
theorem Kp.up {B:Nat} {M:Nat→Prop} {v w w':World} (h:Kp B v w) (c:Chg M w w') (hM:∀k,M k→B≤k):Kp B v w':=⟨h.chg.trans c (fun k _ e=>hM k e),Nat.le_trans h.le c.size⟩
theorem Kp.still {B:Nat} {v w w':World} (h:Kp B v w) (c:Chg (fun _=>False) w w'):Kp B v w':=h.up c (fun _ e=>e.elim)
theorem Kp.out {v w:World} (h:Kp v.heap.size v w):Chg (fun _=>False) v w:=h.chg.mono (fun k hk e=>by omega)
theorem Kp.far {B:Nat} {M M':Nat→Prop} {v w:World} (h:Kp B v w) (hM:∀k,M k→B≤k) (hM':∀k,M' k→M k∨w.heap.size≤k):∀k,M' k→B≤k:=fun k e=>(hM' k e).elim (hM k) (Nat.le_trans h.le)
theorem intR_flat:intR.flat:=fun _ _ _ _ h=>h
noncomputable def body22:Code:=Try.f22.body.getD .skip
def twoL:List Tk:=[⟨0,0,0,0,2,0,0⟩,⟨0,0,0,0,1,0,0⟩]
end Co
end Go.Proofs.Ytlngbdggehghgaa

namespace Go.Proofs.Ytlngbdggehghgaa
set_option linter.unusedSimpArgs false
set_option linter.unusedVariables false
namespace Co
open Go.Conc Go.RowKit
def sA1:SS:=begS (S0 50) twoL
def sA2:SS:=(pickS D0 sA1 x0 1).1
def sA3:SS:=(FairS D0 10 sA2 x0).2.1
theorem a_px:(pickS D0 sA1 x0 1).2=x0:=by kernel_rfl
theorem a_f:(FairS D0 10 sA2 x0).1=(2,4):=by kernel_rfl
theorem a_fx:(FairS D0 10 sA2 x0).2.2=x0:=by kernel_rfl
theorem a_al:(alI sA3).length=0:=by kernel_rfl
theorem a_c1:sA1.closed=false:=by kernel_rfl
theorem a_c2:sA2.closed=false:=by kernel_rfl
theorem a_c3:sA3.closed=false:=by kernel_rfl
theorem lit1 (w:World) (a:Int) (ha:Bd a):Sl intR (w.alloc (.cells #[.int .i64 a] 3)) (.slice (some ⟨w.heap.size,0,none⟩) 1 1) [a]:=by
 exact(Own.lit (e:=3) (R:=intR) (B:=w.heap.size) (cells:=[.int .i64 a]) rfl (Nat.le_refl _) (Rep.many_one (R:=intR) (x:=a) ⟨rfl,ha⟩) rfl (by simp)).sl
theorem lit2 (w:World) (a b:Int) (ha:Bd a) (hb:Bd b):Sl intR (w.alloc (.cells #[.int .i64 a,.int .i64 b] 3)) (.slice (some ⟨w.heap.size,0,none⟩) 2 2) [a,b]:=by
 exact(Own.lit (e:=3) (R:=intR) (B:=w.heap.size) (cells:=[.int .i64 a]++[.int .i64 b]) rfl (Nat.le_refl _) (many_cons (R:=intR) (x:=a) ⟨rfl,ha⟩ (Rep.many_one (R:=intR) (x:=b) ⟨rfl,hb⟩)) rfl (by simp)).sl
set_option maxRecDepth 100000 in
set_option maxHeartbeats 4000000 in
theorem two_co {Z:Goal} {X:Fx} {v:World} (hZ:Z.Ok Try.prog) (hX:X.Ok Try.prog 0):Calls Try.prog Z 0 X 22 #[] v fun e X' v'=>X'=X∧Own tkR 35 v.heap.size v' e twoL∧Chg (fun _=>False) v v':=by
 intro c cs hpost
 rw[enter_at _ Try.func22 (by kernel_rfl:Try.f22.body=some body22),Try.ntmps22]
 walk_nrm
 have HP:=Hd.mk hpost
 clear hpost
 simp only[body22,Try.f22,Option.getD_some]
 refine co_seq hZ hX ?_
 refine co_code hZ hX TT (by decide) (by kernel_rfl) (by kernel_rfl) fun K hK u hu=> ?_
 go_wp2_with fail
 refine hK.out _ _ (co_same hu ?_)
 clear hK K hu u
 refine co_seq hZ hX ?_
 refine co_code hZ hX TT (by decide) (by kernel_rfl) (by kernel_rfl) fun K hK u hu=> ?_
 have hz:u.heap.size=v.heap.size:=by rw[hu.heap]
 go_wp2_with fail
 refine hK.out _ _ (co_same (hu.alloc _) ?_)
 clear hK K hu hz u
 have hX1:=hX
 refine co_ret hZ hX ?_
 refine c_leave (n:=0) (J:=fun _ a=>Co Try.prog Z 0 X a (v.alloc _)) (Co.calmly hZ hX) (x:=.slice (some ⟨v.heap.size,0,none⟩) 2 2) rfl rfl Try.func22 (fun w=>by simp[results,Try.results22,go_sem]) (fun w=>by simp[results,Try.results22,go_sem]) ?_
 refine HP.out _ _ _ ⟨rfl, ?_,Chg.alloc _ v _⟩
 exact Own.lit (cells:=(Tk.cells ⟨0,0,0,0,2,0,0⟩)++(Tk.cells ⟨0,0,0,0,1,0,0⟩)) rfl (Nat.le_refl _) (many_cons (R:=tkR) (x:=⟨0,0,0,0,2,0,0⟩) rfl (Rep.many_one (R:=tkR) (x:=⟨0,0,0,0,1,0,0⟩) rfl)) rfl (by decide)
noncomputable def body11:Code:=Try.f11.body.getD .skip
set_option maxRecDepth 100000 in
set_option maxHeartbeats 8000000 in
theorem awake_co {Z:Goal} {g:Gh} {v:World} (hZ:Z.Ok Try.prog) (L:Lone g):Calls Try.prog Z 0 (g.fx Try.prog κL 0) 11 #[] v fun e X' v'=>e=.bool true∧(∃g',X'=g'.fx Try.prog κL 0∧Lone g')∧Chg (fun _=>False) v v':=by
 intro c cs hpost
 have HP:=Hd.mk hpost
 clear hpost
 have hX:=L.ok.fx κL_ok
 rw[enter_at _ Try.func11 (by kernel_rfl:Try.f11.body=some body11),Try.ntmps11]
 walk_nrm
 simp only[body11,Try.f11,Option.getD_some]
 refine co_seq hZ hX ?_
 refine co_code hZ hX TT (by decide) (by kernel_rfl) (by kernel_rfl) fun K hK u hu=> ?_
 go_wp2_with fail
 refine hK.out _ _ (co_same hu ?_)
 clear hK K hu u
 refine co_seq hZ hX ?_
 refine c_region (n:=0) (J:=fun _ a=>Co Try.prog Z 0 (g.fx Try.prog κL 0) a v) (Co.calmly hZ hX) [0,1,2,3,4,5,6,7,8] rfl ?_
 refine co_value hZ hX (.agg #[]) rfl rfl (by decide) (fun _=>by simp[go_sem,execOp,Act.eval]) (fun _=>by simp[go_sem,execOp,Act.eval]) ?_
 walk_nrm
 refine co_op hZ hX TT.toTable (by decide) (R:=fun y u=>y=.iface 71 (.agg #[])∧Same u v) rfl rfl (by kernel_rfl) (fun u hu=>⟨.iface 71 (.agg #[]),u, ?_,rfl,hu⟩) (fun y u hh=> ?_)
 ·first|(simp[go_sem,execOp,Act.eval];done)|kernel_rfl
 obtain⟨rfl,hu⟩:=hh
 refine co_same hu ?_
 clear hu u
 walk_nrm
 refine co_call2 hZ hX rfl rfl (by decide) rfl Try.func22 (by kernel_rfl) (by kernel_rfl) (vals:=#[]) (by simp) ?_
 refine two_co hZ hX _ _ fun lv X' v1 hq=> ?_
 obtain⟨rfl,hlv,hcv⟩:=hq
 rw[Frame.finish_at]
 walk_nrm
 refine co_call2 hZ hX rfl rfl (by decide) rfl Try.func21 (by kernel_rfl) (by kernel_rfl) (vals:=#[.iface 71 (.agg #[]),lv,.int .i64 50]) (by simp[Act.eval]) ?_
 refine New_co (D:=D0) (x:=x0) (F:=fun _=>False) (l:=twoL) (most:=50) D0_ok hZ L hlv.sl (by decide) (by decide) (fun _=>id) (fun r hr=>by
  have:r.wait.obj=0:=begS_all (p:=fun r=>r.wait.obj=0) (fun _ _=>rfl) twoL (S0 50) (fun r hr=>by cases hr) r hr
  omega) _ _ fun e X' v2 hq=> ?_
 obtain⟨rfl,hA⟩:=hq
 rw[Frame.finish_at]
 walk_nrm
 have KP:=(Kp.refl v).still hcv
 have hBs:v.heap.size≤v1.heap.size:=hcv.size
 generalize v1.heap.size=s at hA hBs⊢
 obtain⟨g1,bs1,M1,rfl,L1,c1,m1⟩:=hA.open D0_ok
 have hX1:=L1.ok
 have N1:∀k,M1 k→v.heap.size≤k:=KP.far (fun k (e:False∨s≤k)=>e.elim False.elim (Nat.le_trans hBs)) m1
 have KP:=KP.up c1 (fun k e=>e.elim False.elim (Nat.le_trans hBs))
 refine co_value hZ hX1 (.tuple #[.pointer (some ⟨s,0,none⟩),.int .i64 0]) rfl rfl (by decide) (fun _=>by simp[go_sem,execOp,Act.eval]) (fun _=>by simp[go_sem,execOp,Act.eval]) ?_
 walk_nrm
 refine co_value hZ hX1 (.pointer (some ⟨s,0,none⟩)) rfl rfl (by decide) (fun _=>by simp[go_sem,execOp,Act.eval]) (fun _=>by simp[go_sem,execOp,Act.eval]) ?_
 walk_nrm
 refine co_value hZ hX1 (.int .i64 0) rfl rfl (by decide) (fun _=>by simp[go_sem,execOp,Act.eval]) (fun _=>by simp[go_sem,execOp,Act.eval]) ?_
 walk_nrm
 refine co_value hZ hX1 (.pointer (some ⟨s,0,none⟩)) rfl rfl (by decide) (fun _=>by simp[go_sem,execOp,Act.eval]) (fun _=>by simp[go_sem,execOp,Act.eval]) ?_
 walk_nrm
 refine co_value hZ hX1 (.int .i64 0) rfl rfl (by decide) (fun _=>by simp[go_sem,execOp,Act.eval]) (fun _=>by simp[go_sem,execOp,Act.eval]) ?_
 walk_nrm
 refine co_region_end hZ hX1 ?_
 refine co_seq hZ hX1 ?_
 refine co_seq hZ hX1 ?_
 replace L1:Liv D0 _ g1 s bs1 sA1 x0 M1 v2:=L1
 obtain⟨tv1,uv1,F1,hS1,_,_⟩:=L1.sm
 refine co_code hZ hX1 TT (by decide) (by kernel_rfl) (by kernel_rfl) fun K hK u hu=> ?_
 go_wp2_with fail
 refine hK.out _ _ (co_same hu ?_)
 clear hK K hu u
 refine co_cond (t:=false) hZ hX1 (by simp[Act.eval]) ?_
 simp only[Bool.false_eq_true,↓reduceIte]
 refine co_skip hZ hX1 ?_
 refine co_seq hZ hX1 ?_
 refine co_code hZ hX1 TT (by decide) (by kernel_rfl) (by kernel_rfl) fun K hK u hu=> ?_
 have R:=Lib.hid (Enabled_any x0 (hS1.chg (same_chg (F:=fun _=>False) hu) (fun _ _=>id)) (en_none x0) (fun r hr=>by
  obtain⟨_,_,_,_,_,hi⟩:=L1.sm
  exact hi r hr))
 have C0:=Hd.mk (same_chg (F:=fun _=>False) hu)
 rw[show readyS sA1=0 by kernel_rfl,show(if sA1.closed=true then[] else nums (enI sA1 D0.o x0))=[1,2] by kernel_rfl] at R
 have hlt:=Hd.mk (fun k (hk:M1 k)=>(show k<u.heap.size by rw[hu.heap];exact L1.lt k hk))
 clear hu
 go_wp2_with (go_at_call 16;refine R.out.mono ?_;rintro e w1 ⟨a1,rfl,hown,hb⟩;have HO:=Hd.mk hown;have HB:=Hd.mk hb;clear hown hb)
 refine hK.out _ _ ?_
 have B1:=Bes.new hlt.out HO.out
 have C1:=C0.out.trans (Chg.of_below (F:=fun _=>False) HB.out) (fun _ _=>id)
 have L1:=L1.still D0_ok C1
 have KP:=KP.still C1
 clear hK K R C0 hlt HO HB C1 hS1
 refine co_seq hZ hX1 ?_
 refine c_region (n:=0) (J:=fun _ a=>Co Try.prog Z 0 (g1.fx Try.prog κL 0) a w1) (Co.calmly hZ hX1) [0,1,2,3,4,5,6] rfl ?_
 refine co_value hZ hX1 (.pointer (some ⟨s,0,none⟩)) rfl rfl (by decide) (fun _=>by simp[go_sem,execOp,Act.eval]) (fun _=>by simp[go_sem,execOp,Act.eval]) ?_
 walk_nrm
 refine co_call2 hZ hX1 rfl rfl (by decide) rfl Try.func18 (by kernel_rfl) (by kernel_rfl) (vals:=#[.pointer (some ⟨s,0,none⟩),.int .i64 1]) (by simp[Act.eval]) ?_
 refine Pick_co D0_ok hZ L1.sch a_c1 (by unfold Bd;decide) _ _ fun e X' v3 hq=> ?_
 obtain⟨rfl,hA⟩:=hq
 rw[show(if pickE D0 sA1 x0 1=0 then(pickI D0 sA1 x0 1:Int)+1 else 0)=2 by kernel_rfl,show pickE D0 sA1 x0 1=0 by kernel_rfl]
 rw[a_px] at hA
 rw[Frame.finish_at]
 walk_nrm
 obtain⟨g2,bs2,M2,rfl,L2,c2,m2⟩:=hA.open D0_ok
 have hX2:=L2.ok
 have N2:=KP.far N1 m2
 have KP:=KP.up c2 N1
 have B1:=B1.up intR_flat c2 m2
 refine co_value hZ hX2 (.tuple #[.int .i64 2,.int .i64 0]) rfl rfl (by decide) (fun _=>by simp[go_sem,execOp,Act.eval]) (fun _=>by simp[go_sem,execOp,Act.eval]) ?_
 walk_nrm
 refine co_value hZ hX2 (.int .i64 2) rfl rfl (by decide) (fun _=>by simp[go_sem,execOp,Act.eval]) (fun _=>by simp[go_sem,execOp,Act.eval]) ?_
 walk_nrm
 refine co_value hZ hX2 (.int .i64 0) rfl rfl (by decide) (fun _=>by simp[go_sem,execOp,Act.eval]) (fun _=>by simp[go_sem,execOp,Act.eval]) ?_
 walk_nrm
 refine co_value hZ hX2 (.int .i64 2) rfl rfl (by decide) (fun _=>by simp[go_sem,execOp,Act.eval]) (fun _=>by simp[go_sem,execOp,Act.eval]) ?_
 walk_nrm
 refine co_value hZ hX2 (.int .i64 0) rfl rfl (by decide) (fun _=>by simp[go_sem,execOp,Act.eval]) (fun _=>by simp[go_sem,execOp,Act.eval]) ?_
 walk_nrm
 refine co_region_end hZ hX2 ?_
 refine co_seq hZ hX2 ?_
 obtain⟨tv2,uv2,F2,hS2,_,_⟩:=L2.sm
 replace hS2:SM D0.o _ s bs2 tv2 uv2 sA2 v3:=hS2
 replace L2:Liv D0 _ g2 s bs2 sA2 x0 M2 v3:=L2
 refine co_code hZ hX2 TT (by decide) (by kernel_rfl) (by kernel_rfl) fun K hK u hu=> ?_
 have R:=Lib.hid (Enabled_any x0 (hS2.chg (same_chg (F:=fun _=>False) hu) (fun _ _=>id)) (en_none x0) (fun r hr=>by
  obtain⟨_,_,_,_,_,hi⟩:=L2.sm
  exact hi r hr))
 have C0:=Hd.mk (same_chg (F:=fun _=>False) hu)
 rw[show readyS sA2=0 by kernel_rfl,show(if sA2.closed=true then[] else nums (enI sA2 D0.o x0))=[1] by kernel_rfl] at R
 have hlt:=Hd.mk (fun k (hk:M2 k)=>(show k<u.heap.size by rw[hu.heap];exact L2.lt k hk))
 clear hu
 go_wp2_with (go_at_call 16;refine R.out.mono ?_;rintro e w2 ⟨a2,rfl,hown,hb⟩;have HO:=Hd.mk hown;have HB:=Hd.mk hb;clear hown hb)
 refine hK.out _ _ ?_
 have B2:=Bes.new hlt.out HO.out
 have C1:=C0.out.trans (Chg.of_below (F:=fun _=>False) HB.out) (fun _ _=>id)
 have L2:=L2.still D0_ok C1
 have KP:=KP.still C1
 have B1:=B1.still intR_flat C1
 clear hK K R C0 hlt HO HB C1 hS2
 refine co_seq hZ hX2 ?_
 refine c_region (n:=0) (J:=fun _ a=>Co Try.prog Z 0 (g2.fx Try.prog κL 0) a w2) (Co.calmly hZ hX2) [0,1,2,3,4,5,6] rfl ?_
 refine co_value hZ hX2 (.pointer (some ⟨s,0,none⟩)) rfl rfl (by decide) (fun _=>by simp[go_sem,execOp,Act.eval]) (fun _=>by simp[go_sem,execOp,Act.eval]) ?_
 walk_nrm
 refine co_call2 hZ hX2 rfl rfl (by decide) rfl Try.func12 (by kernel_rfl) (by kernel_rfl) (vals:=#[.pointer (some ⟨s,0,none⟩),.int .i64 10]) (by simp[Act.eval]) ?_
 refine Fair_co D0_ok hZ L2.sch a_c2 (by decide) _ _ fun e X' v4 hq=> ?_
 obtain⟨rfl,hA⟩:=hq
 rw[a_f]
 rw[a_fx] at hA
 rw[Frame.finish_at]
 walk_nrm
 obtain⟨g3,bs3,M3,rfl,L3,c3,m3⟩:=hA.open D0_ok
 have hX3:=L3.ok
 have N3:=KP.far N2 m3
 have KP:=KP.up c3 N2
 have B1:=B1.up intR_flat c3 m3
 have B2:=B2.up intR_flat c3 m3
 replace L3:Liv D0 _ g3 s bs3 sA3 x0 M3 v4:=L3
 refine co_value hZ hX3 (.tuple #[.int .i64 2,.int .i64 4]) rfl rfl (by decide) (fun _=>by simp[go_sem,execOp,Act.eval]) (fun _=>by simp[go_sem,execOp,Act.eval]) ?_
 walk_nrm
 refine co_value hZ hX3 (.int .i64 2) rfl rfl (by decide) (fun _=>by simp[go_sem,execOp,Act.eval]) (fun _=>by simp[go_sem,execOp,Act.eval]) ?_
 walk_nrm
 refine co_value hZ hX3 (.int .i64 4) rfl rfl (by decide) (fun _=>by simp[go_sem,execOp,Act.eval]) (fun _=>by simp[go_sem,execOp,Act.eval]) ?_
 walk_nrm
 refine co_value hZ hX3 (.int .i64 2) rfl rfl (by decide) (fun _=>by simp[go_sem,execOp,Act.eval]) (fun _=>by simp[go_sem,execOp,Act.eval]) ?_
 walk_nrm
 refine co_value hZ hX3 (.int .i64 4) rfl rfl (by decide) (fun _=>by simp[go_sem,execOp,Act.eval]) (fun _=>by simp[go_sem,execOp,Act.eval]) ?_
 walk_nrm
 refine co_region_end hZ hX3 ?_
 refine co_seq hZ hX3 ?_
 refine c_region (n:=0) (J:=fun _ a=>Co Try.prog Z 0 (g3.fx Try.prog κL 0) a v4) (Co.calmly hZ hX3) [0,1,2,3,4,5,6] rfl ?_
 refine co_value hZ hX3 (.pointer (some ⟨s,0,none⟩)) rfl rfl (by decide) (fun _=>by simp[go_sem,execOp,Act.eval]) (fun _=>by simp[go_sem,execOp,Act.eval]) ?_
 walk_nrm
 refine co_call2 hZ hX3 rfl rfl (by decide) rfl Try.func15 (by kernel_rfl) (by kernel_rfl) (vals:=#[.pointer (some ⟨s,0,none⟩)]) (by simp[Act.eval]) ?_
 refine Close_co D0_ok hZ L3.sch a_c3 _ _ fun e X' v5 hq=> ?_
 obtain⟨rfl,g4,rfl,L4,_,c4⟩:=hq
 rw[a_al]
 have hX4:=L4.ok.fx κL_ok
 have KP:=KP.up c4 N3
 have B1:=B1.up intR_flat c4 (fun _ h=> .inl h)
 have B2:=B2.up intR_flat c4 (fun _ h=> .inl h)
 rw[Frame.finish_at]
 walk_nrm
 refine co_value hZ hX4 (.tuple #[.int .i64 0,.int .i64 0]) rfl rfl (by decide) (fun _=>by simp[go_sem,execOp,Act.eval]) (fun _=>by simp[go_sem,execOp,Act.eval]) ?_
 walk_nrm
 refine co_value hZ hX4 (.int .i64 0) rfl rfl (by decide) (fun _=>by simp[go_sem,execOp,Act.eval]) (fun _=>by simp[go_sem,execOp,Act.eval]) ?_
 walk_nrm
 refine co_value hZ hX4 (.int .i64 0) rfl rfl (by decide) (fun _=>by simp[go_sem,execOp,Act.eval]) (fun _=>by simp[go_sem,execOp,Act.eval]) ?_
 walk_nrm
 refine co_value hZ hX4 (.int .i64 0) rfl rfl (by decide) (fun _=>by simp[go_sem,execOp,Act.eval]) (fun _=>by simp[go_sem,execOp,Act.eval]) ?_
 walk_nrm
 refine co_value hZ hX4 (.int .i64 0) rfl rfl (by decide) (fun _=>by simp[go_sem,execOp,Act.eval]) (fun _=>by simp[go_sem,execOp,Act.eval]) ?_
 walk_nrm
 refine co_region_end hZ hX4 ?_
 refine co_seq hZ hX4 ?_
 refine co_code hZ hX4 TT (by decide) (by kernel_rfl) (by kernel_rfl) fun K hK u hu=> ?_
 have C0:=same_chg (F:=fun _=>False) hu
 have B1:=Hd.mk (B1.still intR_flat C0)
 have B2:=Hd.mk (B2.still intR_flat C0)
 have KP:=Hd.mk (KP.still C0)
 have C0:=Hd.mk C0
 clear hu
 go_wp2_with (first
  |(have hq6:=C6.out;go_at_call 29;refine(same_any a2 _ [1] [1] _ (B2.out.sl.chg intR_flat (C6.out.trans (Chg.alloc (fun _=>False) w6 _) (fun _ _=>id)) (fun _ _=>id)) (lit1 w6 1 (by unfold Bd;decide))).mono ?_;rintro e w7 ⟨rfl,hb7⟩)
  |(go_at_call 29;refine(same_any a1 _ [1,2] [1,2] _ (B1.out.sl.chg intR_flat (Chg.alloc (fun _=>False) u _) (fun _ _=>id)) (lit2 u 1 2 (by unfold Bd;decide) (by unfold Bd;decide))).mono ?_;rintro e w6 ⟨rfl,hb6⟩;have C6:=Hd.mk ((Chg.alloc (fun _=>False) u _).trans (Chg.of_below (F:=fun _=>False) hb6) (fun _ _=>id));clear hb6))
 refine hK.out _ _ ?_
 refine co_ret hZ hX4 ?_
 refine c_leave (n:=0) (J:=fun _ a=>Co Try.prog Z 0 (g4.fx Try.prog κL 0) a w7) (Co.calmly hZ hX4) (x:=.bool true) rfl rfl Try.func11 (fun w=>by simp[results,Try.results11,go_sem]) (fun w=>by simp[results,Try.results11,go_sem]) ?_
 exact HP.out _ _ w7 ⟨rfl,⟨g4,rfl,L4⟩,(((KP.out.still C6.out).still (Chg.alloc (fun _=>False) w6 _)).still (Chg.of_below hb7)).out⟩
end Co
end Go.Proofs.Ytlngbdggehghgaa
