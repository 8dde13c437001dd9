/-
  Tasks are begun, in company. Conditions: as each theorem says.
  A region whose order is drawn, step by step; a block is made. Conditions: as each theorem says.
-/
import Derived.Test.YtlngbdggehghgaaCxG
namespace Go.Proofs.Ytlngbdggehghgaa
set_option linter.unusedSimpArgs false
set_option linter.unusedVariables false
def newR (n:Nat) (t:Tk):Ru:=⟨{t with id:=(n:Int)+1},⟨0,0,0⟩,0⟩
def addS (S:SS) (t:Tk):SS:={S with rs:=S.rs++[newR S.rs.length t]}
namespace Co
open Go.Conc Go.RowKit
structure Crew (g:Gh) (s:Nat) (bs:List Nat):Prop where
 ok:g.Ok 0
 on:g.on=true
 s:g.s=s
 rs:g.rs.map (·.r)=bs
 up:g.up=g.rs.length
 off:g.off=0
 cnt:g.cnt=g.rs.length
 lim:g.lim=0
 m0:g.m0=none
 ear:g.ear=true
 pos:0<g.n
theorem co_facts {P:Program} {Z:Goal} {h:Nat} {X:Fx} {a:Goroutine} {v:World} (hc:nview v.heap→(∀r n,X.H r=some n→r<v.heap.size)→Z.old.size≤v.heap.size→Co P Z h X a v):Co P Z h X a v:=by
 intro T T0 gs w sl q ht hi hg
 exact hc hi.nv hi.size (by rw[hi.vis.size];exact hi.old.size) T T0 gs w sl q ht hi hg
noncomputable def body39:Code:=Try.f39.body.getD .skip
noncomputable def lb39:Code:=inC (inC (sndC body39))
noncomputable def rest39:Code:=sndC (sndC (sndC (inC (fstC (sndC (sndC lb39))))))
set_option maxRecDepth 100000 in
set_option maxHeartbeats 4000000 in
theorem begin_head {Z:Goal} {X:Fx} {o:Option Nat} {B s i:Nat} {bs:List Nat} {tv uv lv:Value} {S:SS} {v:World} {l:List Tk} {cs:List Frame} {k:List Item}
 (hZ:Z.Ok Try.prog) (hX:X.Ok Try.prog 0) (h:SM o B s bs tv uv S v) (hl:Sl tkR v lv l) (hi:i<l.length) (hlen:S.rs.length<200) (hll:l.length≤1000000)
 (hnext:∀(v':World) (d5:Nat) (Jr Jf Jg Yc J1 J9 Jw Jn Jv Jb Js Jy Jd J2 J0 Ya J3 Jt Jq Ji Ju Jm Ye Jc Je Jj Jx Jl J6 Jp J8 Jo Jk Yb Jh J4 J7 Jz Ja Yd J5 Yf:Value),Chg (fun _=>False) v v'→v.heap.size≤d5→Cells v' d5 ({l[i] with id:=(S.rs.length:Int)+1}:Tk).cells→
  Co Try.prog Z 0 X (G ((Go.Conc.base 39).at ⟨#[.pointer (some ⟨s,0,none⟩),lv,Jr,Jf,Jg,.pointer (some ⟨d5,0,none⟩),Yc,lv,.int .i64 (l.length:Int),.int .i64 (i:Int),J1,J9,Jw,Jn,Jv,Jb,Js,Jy,Jd,J2,J0,Ya,J3,Jt,Jq,Ji,Ju,Jm,Ye,Jc,Je,Jj,Jx,Jl,J6,Jp,J8,Jo,Jk,Yb,Jh,J4,J7,Jz,Ja,Yd,J5,Yf],[]⟩ (.code rest39:: .inBlock 1:: .code (sndC (sndC (sndC lb39)))::k)) cs) v'):
 ∀(Jr Jf Jg Yg Yc J1 J9 Jw Jn Jv Jb Js Jy Jd J2 J0 Ya J3 Jt Jq Ji Ju Jm Ye Jc Je Jj Jx Jl J6 Jp J8 Jo Jk Yb Jh J4 J7 Jz Ja Yd J5 Yf:Value),Co Try.prog Z 0 X (G ((Go.Conc.base 39).at ⟨#[.pointer (some ⟨s,0,none⟩),lv,Jr,Jf,Jg,Yg,Yc,lv,.int .i64 (l.length:Int),.int .i64 (i:Int),J1,J9,Jw,Jn,Jv,Jb,Js,Jy,Jd,J2,J0,Ya,J3,Jt,Jq,Ji,Ju,Jm,Ye,Jc,Je,Jj,Jx,Jl,J6,Jp,J8,Jo,Jk,Yb,Jh,J4,J7,Jz,Ja,Yd,J5,Yf],[]⟩ (.code lb39::k)) cs) v:=by
 intro Jr Jf Jg Yg Yc J1 J9 Jw Jn Jv Jb Js Jy Jd J2 J0 Ya J3 Jt Jq Ji Ju Jm Ye Jc Je Jj Jx Jl J6 Jp J8 Jo Jk Yb Jh J4 J7 Jz Ja Yd J5 Yf
 have HN:=Hd.mk hnext
 clear hnext
 simp only[rest39,lb39,body39,Try.f39,Option.getD_some,fstC,sndC,inC] at HN⊢
 refine co_seq hZ hX ?_
 refine co_code hZ hX TT (by decide) (by kernel_rfl) (by kernel_rfl) fun K hK u hu=> ?_
 go_wp2_with fail
 refine hK.out _ _ (co_same hu ?_)
 clear hK K hu u
 refine co_seq hZ hX ?_
 refine co_cond (t:=true) hZ hX rfl ?_
 simp only[↓reduceIte]
 refine co_skip hZ hX ?_
 refine co_seq hZ hX ?_
 refine co_block hZ hX ?_
 refine co_seq hZ hX ?_
 refine co_code hZ hX TT (by decide) (by kernel_rfl) (by kernel_rfl) fun K hK u hu=> ?_
 have hl':=hl.chg tkR_flat (same_chg (F:=fun _=>False) hu) (fun _ _=>id)
 obtain⟨A,c,rfl,hc1,hc2,hA⟩:=hl'.open
 obtain⟨lb,off,cc,rfl,hlb,hcc,hat⟩:=hA.at_ hi
 have hcc2:cc=(l[i]).cells:=hcc
 subst hcc2
 generalize l[i]=t at hat hcc HN
 have p0:=hat 0 _ rfl
 have p1:=hat 1 _ rfl
 have p2:=hat 2 _ rfl
 have p3:=hat 3 _ rfl
 have p4:=hat 4 _ rfl
 have p5:=hat 5 _ rfl
 have p6:=hat 6 _ rfl
 simp only[tkR,Nat.add_zero,Tk.cells,List.getElem_cons_zero,List.getElem_cons_succ] at p0 p1 p2 p3 p4 p5 p6
 clear hat hcc hA hl'
 go_wp2_with fail
 refine hK.out _ _ ?_
 obtain⟨d5,hd5,k5,e1,e2⟩:∃d5,v.heap.size≤d5∧Cells (u.alloc (.cells #[.int .i64 t.id,.int .i64 t.kind,.int .i64 t.pc,.int .i64 t.a,.int .i64 t.b,.int .i64 t.c,.int .i64 t.d] 35)) d5 t.cells∧Chg (fun _=>False) v (u.alloc (.cells #[.int .i64 t.id,.int .i64 t.kind,.int .i64 t.pc,.int .i64 t.a,.int .i64 t.b,.int .i64 t.c,.int .i64 t.d] 35))∧d5=u.heap.size:=
  ⟨u.heap.size,by rw[hu.heap];exact Nat.le_refl _,Cells.new u t.cells 35,(same_chg hu).trans (Chg.alloc (fun _=>False) u _) (fun _ _=>id),rfl⟩
 rw[←e2]
 generalize(u.alloc (.cells #[.int .i64 t.id,.int .i64 t.kind,.int .i64 t.pc,.int .i64 t.a,.int .i64 t.b,.int .i64 t.c,.int .i64 t.d] 35))=v1 at k5 e1⊢
 clear e2 hK K hu u p0 p1 p2 p3 p4 p5 p6 hl hlb
 have HH:=Hd.mk (h.chg e1 (fun _ _=>id))
 clear h
 refine co_seq hZ hX ?_
 refine co_seq hZ hX ?_
 refine co_code hZ hX TT (by decide) (by kernel_rfl) (by kernel_rfl) fun K hK u hu=> ?_
 have h:=HH.out.chg (same_chg (F:=fun _=>False) hu) (fun _ _=>id)
 have c1:=h.box.c 1 _ rfl
 obtain⟨tA,tc,rfl,ht1,ht2⟩:=h.lenv
 have hne:¬(S.rs.length=200):=by omega
 clear h
 go_wp2_with fail
 refine hK.out _ _ (co_same hu ?_)
 clear hK K hu u c1
 refine co_cond (t:=false) hZ hX (by simp[Act.eval];omega) ?_
 simp only[Bool.false_eq_true,↓reduceIte]
 refine co_skip hZ hX ?_
 refine co_seq hZ hX ?_
 refine co_code hZ hX TT (by decide) (by kernel_rfl) (by kernel_rfl) fun K hK u hu=> ?_
 have h:=HH.out.chg (same_chg (F:=fun _=>False) hu) (fun _ _=>id)
 have A5:=k5.chg (same_chg (F:=fun _=>False) hu) id
 have c1:=h.box.c 1 _ rfl
 have y0:=A5.c 0 _ rfl
 have yf:=A5.f 0
 have yl:=A5.lt
 clear h A5
 go_wp2_with fail
 refine hK.out _ _ (co_same (hu.set _ _) ?_)
 clear hK K hu u c1 y0 yf yl
 have k6:Cells (v1.setCell ⟨d5,0,none⟩ (.int .i64 ((S.rs.length:Int)+1))) d5 ({t with id:=(S.rs.length:Int)+1}:Tk).cells:=by
  refine⟨fun j u hu=> ?_,fun j=>by simp[k5.f j],by simpa using k5.lt⟩
  by_cases e:j=0
  ·subst e
   rw[World.cell?_setCell_same v1 _ _ (by rw[k5.c 0 _ rfl])]
   exact hu
  ·rw[World.cell?_setCell_other v1 _ _ _ (fun e2=>by injection e2;omega)]
   refine k5.c j u ?_
   match j,hu,e with
   |1,hu,_=>exact hu
   |2,hu,_=>exact hu
   |3,hu,_=>exact hu
   |4,hu,_=>exact hu
   |5,hu,_=>exact hu
   |6,hu,_=>exact hu
   |n+7,hu,_=>simp[Tk.cells] at hu
 exact HN.out _ d5 _ _ _ _ _ _ _ _ _ _ _ _ _ _ _ _ _ _ _ _ _ _ _ _ _ _ _ _ _ _ _ _ _ _ _ _ _ _ _ _ _ _ (e1.trans (Chg.set (F:=fun k=>k=d5) v1 _ rfl) (fun k hk e=>by omega)) hd5 k6
end Co
end Go.Proofs.Ytlngbdggehghgaa

namespace Go.Proofs.Ytlngbdggehghgaa
set_option linter.unusedSimpArgs false
set_option linter.unusedVariables false
namespace Co
open Go.Conc Go.RowKit
section
variable {P:Program} {Z:Goal} {h:Nat} {X:Fx} {b:Frame} {a:Act} {k:List Item} {cs:List Frame} {v:World}
theorem co_lin {ops:Array Oper} {f t:Nat} {listed:Array Bool} (rs:List Nat) (hr:Region.ready .any ops listed=rs) (hne:rs≠[])
 (hc:∀i∈rs,∀t',Co P Z h X (G (b.at a (.inRegion ops (i::Region.linearise.go .any ops f t' (listed.setIfInBounds i true) [])::k)) cs) v):
 Co P Z h X (G (b.at a (.inRegion ops (Region.linearise.go .any ops (f+1) t listed [])::k)) cs) v:=by
 simp only[Region.linearise.go]
 change Co P Z h X (G (b.at a (.inRegion ops (match(Region.ready .any ops listed)[t%(Region.ready .any ops listed).length]? with
  |some i=>Region.linearise.go .any ops f (t/(Region.ready .any ops listed).length) (listed.setIfInBounds i true) [i]
  |none=>[].reverse)::k)) cs) v
 have hpos:0<(Region.ready .any ops listed).length:=by
  rw[hr]
  cases rs with
  |nil=>exact absurd rfl hne
  |cons x xs=>simp
 have hmod:=Nat.mod_lt t hpos
 rw[List.getElem?_eq_getElem hmod]
 have him:=List.getElem_mem hmod
 generalize(Region.ready .any ops listed)[t%(Region.ready .any ops listed).length]=i at him
 simp only[]
 rw[linearise_go_acc,List.reverse_singleton,List.singleton_append]
 exact hc i (by rw[←hr];exact him) _
theorem co_alloc (hZ:Z.Ok P) (hX:X.Ok P h) {ops:Array Oper} {i:Nat} {rest:List Nat} {op:Oper} {o:Obj} (ho:plainO o=true) (f:Nat→Value) (hi:ops[i]?=some op) (hw:Region.wanted op (yielded ops a.tmps)=true) (hk:b.kind≠.early)
 (hr:∀w,(execOp a.eval op).run P w=.ok (.value (f w.heap.size)) (w.alloc o)) (he:∀w,(execOp a.eval op).events P w #[]=#[])
 (hc:Co P Z h X (G (b.at (a.put op.dst (f v.heap.size)) (.inRegion ops rest::k)) cs) (v.alloc o)):Co P Z h X (G (b.at a (.inRegion ops (i::rest)::k)) cs) v:=by
 refine co_facts fun hn hH _=>co_step hZ hX rfl fun w hv _ _=> ?_
 have hsz:v.heap.size=w.heap.size:=hv.size
 have hnone:X.H w.heap.size=none:=by
  cases e:X.H w.heap.size with
  |none=>rfl
  |some n=>have:=hH _ _ e;omega
 refine⟨_,w.alloc o,v.alloc o,listed P b.fn a op w, ?_,stepG_value hi hw hk (hr w),fun r n e=> ?_, ?_,⟨?_,hv.os,hv.output,fun r n e=> ?_⟩,fun j ob hj=> ?_,by rw[←hsz];exact hc⟩
 ·rw[listed_none (he w)]
  simp
 ·rw[alloc_old w o (by have:=hH r n e;omega)]
  exact SameFrom.refl _ _
 ·rw[alloc_size];omega
 ·show v.heap.push o=vis X.H (w.heap.push o)
  unfold vis
  rw[Array.mapIdx_push,hnone,hv.heap]
  rfl
 ·rw[alloc_old w o (by have:=hH r n e;omega)]
  exact hv.kinds r n e
 ·have hj':(v.heap.push o)[j]?=some ob:=hj
  rw[Array.getElem?_push] at hj'
  split at hj'
  ·obtain rfl:=Option.some.inj hj'
   exact .inl ho
  ·exact hn j ob hj'
end
end Co
end Go.Proofs.Ytlngbdggehghgaa
