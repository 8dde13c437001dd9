/-
  A runner is born, in company. Conditions: as each theorem says.
  A worker is counted, and started, in company. Conditions: as each theorem says.
  A runner is added to the scheduler's list, in company. Conditions: as each theorem says.
-/
import Derived.Test.YtlngbdggehghgaaCxI
namespace Go.Proofs.Ytlngbdggehghgaa
set_option linter.unusedSimpArgs false
set_option linter.unusedVariables false
namespace Co
open Go.Conc Go.RowKit
noncomputable def reg5:Code:=fstC rest39
theorem some35:∃i,Try.prog.info? 35=some i:=Option.isSome_iff_exists.1 (by kernel_rfl)
theorem some115:∃i,Try.prog.info? 115=some i:=Option.isSome_iff_exists.1 (by kernel_rfl)
set_option maxRecDepth 100000 in
set_option maxHeartbeats 4000000 in
theorem born_tail {Z:Goal} {g:Gh} {lv p8 p9:Value} {v w:World} {t:Tk} {d5 ct cb:Nat} {cs:List Frame} {k:List Item} {listed:Array Bool} {t':Nat}
 (hZ:Z.Ok Try.prog) (hg:g.Ok 0) (hoff:g.off=0) (hup:g.up=g.rs.length) (hn:g.n≠0) (hvw:Chg (fun _=>False) v w) (hct:w.heap[ct]?=some (.chan 0 #[] false 0 0 false)) (hcb:w.heap[cb]?=some (.chan 0 #[] false 0 0 false)) (hne:ct≠cb) (h1:v.heap.size≤ct) (h2:v.heap.size≤cb)
 (hH:∀r n,hidOf g.hid r=some n→r<v.heap.size) (hO:Z.old.size≤v.heap.size) (r3:Region.ready .any (opsC reg5) listed=[3]) (r4:Region.ready .any (opsC reg5) (listed.setIfInBounds 3 true)=[4]) (r5:Region.ready .any (opsC reg5) ((listed.setIfInBounds 3 true).setIfInBounds 4 true)=[5])
 (hnext:∀(r ct cb:Nat) (v':World) (Jr Jm Jn Jy J1 Jv Jp Ju Jk Js Jw Jl Jz Jx J2 J0 Jt Jq Jo J8 J7 Ye J5 J6 Jb Jg Jd Jh Jf Ji Je Jc Jj Ja Ya Yc J9 J4 Yd Yb J3:Value),v.heap.size≤r→Chg (fun _=>False) v v'→Cells v' r (⟨t,⟨0,0,0⟩,0⟩:Ru).cells→(g.more r ct cb).Ok 0→
  Co Try.prog Z 0 ((g.more r ct cb).fx Try.prog κL 0) (G ((Go.Conc.base 39).at ⟨#[.pointer (some ⟨g.s,0,none⟩),lv,Jr,Jm,Jn,.pointer (some ⟨d5,0,none⟩),.pointer (some ⟨r,0,none⟩),lv,p8,p9,Jy,J1,Jv,Jp,Ju,Jk,Js,Jw,Jl,Jz,Jx,J2,J0,Jt,Jq,Jo,J8,J7,Ye,J5,J6,Jb,Jg,Jd,Jh,Jf,Ji,Je,Jc,Jj,Ja,Ya,Yc,J9,J4,Yd,Yb,J3],[]⟩ k) cs) v'):
 ∀(Jr Jm Jn Yk Jy J1 Jv Jp Ju Jk Js Jw Jl Jz Jx J2 J0 Jt Jq Jo J8 J7 Ye J5 J6 Jb Jg Jd Jh Jf Ji Je Jc Jj Ja Ya Yc J9 J4 Yd Yb J3:Value),Co Try.prog Z 0 (g.fx Try.prog κL 0) (G ((Go.Conc.base 39).at ⟨#[.pointer (some ⟨g.s,0,none⟩),lv,Jr,Jm,Jn,.pointer (some ⟨d5,0,none⟩),Yk,lv,p8,p9,Jy,J1,Jv,Jp,Ju,Jk,Js,Jw,Jl,Jz,Jx,J2,J0,Jt,Jq,Jo,.agg #[.int .i64 t.id,.int .i64 t.kind,.int .i64 t.pc,.int .i64 t.a,.int .i64 t.b,.int .i64 t.c,.int .i64 t.d],.chan (some ct),.chan (some cb),J5,J6,Jb,Jg,Jd,Jh,Jf,Ji,Je,Jc,Jj,Ja,Ya,Yc,J9,J4,Yd,Yb,J3],[]⟩ (.inRegion (opsC reg5) (Region.linearise.go .any (opsC reg5) 3 t' listed [])::k)) cs) w:=by
 intro Jr Jm Jn Yk Jy J1 Jv Jp Ju Jk Js Jw Jl Jz Jx J2 J0 Jt Jq Jo J8 J7 Ye J5 J6 Jb Jg Jd Jh Jf Ji Je Jc Jj Ja Ya Yc J9 J4 Yd Yb J3
 have hX:=hg.fx κL_ok
 refine co_lin [3] r3 (by simp) fun i hi t1=> ?_
 obtain rfl:=List.mem_singleton.1 hi
 refine co_value hZ hX (.agg #[.int .i64 t.id,.int .i64 t.kind,.int .i64 t.pc,.int .i64 t.a,.int .i64 t.b,.int .i64 t.c,.int .i64 t.d,.int .i64 0,.int .i64 0,.int .i64 0,.int .i64 0,.chan (some ct),.chan (some cb)]) (by simp only[reg5,rest39,lb39,body39,Try.f39,Option.getD_some,fstC,sndC,inC,opsC];rfl) (by rfl) (by decide) (fun _=> ?_) (fun _=> ?_) ?_
 ·simp[go_sem,execOp,Act.eval]
 ·simp[go_sem,execOp,Act.eval]
 walk_nrm
 refine co_lin [4] r4 (by simp) fun i hi t2=> ?_
 obtain rfl:=List.mem_singleton.1 hi
 refine co_facts fun hnv hH2 _=> ?_
 have hlt:∀r,v.heap.size≤r→hidOf g.hid r=none:=fun r hr=>by
  cases e:hidOf g.hid r with
  |none=>rfl
  |some n=>have:=hH _ _ e;omega
 have hwz:=hvw.size
 have hcz:ct<w.heap.size:=(Array.getElem?_eq_some_iff.1 hct).1
 have hbz:cb<w.heap.size:=(Array.getElem?_eq_some_iff.1 hcb).1
 have hg':(g.more w.heap.size ct cb).Ok 0:=hg.more hoff hup hn (hlt _ hwz) (hlt _ h1) (hlt _ h2) (by omega) (by omega) hne
 refine co_born_runner (cells:=#[.int .i64 t.id,.int .i64 t.kind,.int .i64 t.pc,.int .i64 t.a,.int .i64 t.b,.int .i64 t.c,.int .i64 t.d,.int .i64 0,.int .i64 0,.int .i64 0,.int .i64 0,.chan (some ct),.chan (some cb)]) (ty:=102) (ct:=ct) (cb:=cb) hZ κL_ok hg hoff hup rfl (a':= ?_) (fun w' hw'=> ?_) rfl rfl hnv (fun r n e=>by have:=hH r n e;omega) hct hcb hne (hlt _ h1) (hlt _ h2) ⟨Nat.le_trans hO h1,Nat.le_trans hO h2⟩ ?_
 ·exact G ((Go.Conc.base 39).at ⟨#[.pointer (some ⟨g.s,0,none⟩),lv,Jr,Jm,Jn,.pointer (some ⟨d5,0,none⟩),Yk,lv,p8,p9,Jy,J1,Jv,Jp,Ju,Jk,Js,Jw,Jl,Jz,Jx,J2,J0,Jt,Jq,Jo,.agg #[.int .i64 t.id,.int .i64 t.kind,.int .i64 t.pc,.int .i64 t.a,.int .i64 t.b,.int .i64 t.c,.int .i64 t.d],.chan (some ct),.chan (some cb),.agg #[.int .i64 t.id,.int .i64 t.kind,.int .i64 t.pc,.int .i64 t.a,.int .i64 t.b,.int .i64 t.c,.int .i64 t.d,.int .i64 0,.int .i64 0,.int .i64 0,.int .i64 0,.chan (some ct),.chan (some cb)],.pointer (some ⟨w.heap.size,0,none⟩),Jb,Jg,Jd,Jh,Jf,Ji,Je,Jc,Jj,Ja,Ya,Yc,J9,J4,Yd,Yb,J3],[]⟩ (.inRegion (opsC reg5) (Region.linearise.go .any (opsC reg5) 1 t2 ((listed.setIfInBounds 3 true).setIfInBounds 4 true) [])::k)) cs
 ·simp only[reg5,rest39,lb39,body39,Try.f39,Option.getD_some,fstC,sndC,inC,opsC]
  refine(stepG_value (v:=.pointer (some ⟨w.heap.size,0,none⟩)) (w':=w'.alloc (.cells #[.int .i64 t.id,.int .i64 t.kind,.int .i64 t.pc,.int .i64 t.a,.int .i64 t.b,.int .i64 t.c,.int .i64 t.d,.int .i64 0,.int .i64 0,.int .i64 0,.int .i64 0,.chan (some ct),.chan (some cb)] 102)) rfl rfl (by decide) ?_).trans ?_
  ·simp[go_sem,execOp,Act.eval,hw']
  ·rw[listed_none (by simp[go_sem,execOp,Act.eval])]
   rfl
 have hX':=hg'.fx κL_ok
 refine co_lin [5] r5 (by simp) fun i hi t3=> ?_
 obtain rfl:=List.mem_singleton.1 hi
 refine co_value hZ hX' (.pointer (some ⟨w.heap.size,0,none⟩)) (by simp only[reg5,rest39,lb39,body39,Try.f39,Option.getD_some,fstC,sndC,inC,opsC];rfl) (by rfl) (by decide) (fun _=> ?_) (fun _=> ?_) ?_
 ·simp[go_sem,execOp,Act.eval]
 ·simp[go_sem,execOp,Act.eval]
 walk_nrm
 refine co_region_end hZ hX' ?_
 have hbz2:(World.bornR w ct cb (.cells (Array.extract #[.int .i64 t.id,.int .i64 t.kind,.int .i64 t.pc,.int .i64 t.a,.int .i64 t.b,.int .i64 t.c,.int .i64 t.d,.int .i64 0,.int .i64 0,.int .i64 0,.int .i64 0,.chan (some ct),.chan (some cb)] 0 11) 102)).heap.size=w.heap.size+1:=by simp[World.bornR]
 have hbl:∀j,j≠ct→j≠cb→j<w.heap.size→(World.bornR w ct cb (.cells (Array.extract #[.int .i64 t.id,.int .i64 t.kind,.int .i64 t.pc,.int .i64 t.a,.int .i64 t.b,.int .i64 t.c,.int .i64 t.d,.int .i64 0,.int .i64 0,.int .i64 0,.int .i64 0,.chan (some ct),.chan (some cb)] 0 11) 102)).heap[j]?=w.heap[j]?:=fun j e1 e2 hj=>by
  unfold World.bornR
  rw[Array.getElem?_push,if_neg (by simp;omega),Array.getElem?_setIfInBounds_ne (Ne.symm e2),Array.getElem?_setIfInBounds_ne (Ne.symm e1)]
 have hnw:(World.bornR w ct cb (.cells (Array.extract #[.int .i64 t.id,.int .i64 t.kind,.int .i64 t.pc,.int .i64 t.a,.int .i64 t.b,.int .i64 t.c,.int .i64 t.d,.int .i64 0,.int .i64 0,.int .i64 0,.int .i64 0,.chan (some ct),.chan (some cb)] 0 11) 102)).heap[w.heap.size]?=some (.cells #[.int .i64 t.id,.int .i64 t.kind,.int .i64 t.pc,.int .i64 t.a,.int .i64 t.b,.int .i64 t.c,.int .i64 t.d,.int .i64 0,.int .i64 0,.int .i64 0,.int .i64 0] 102):=by
  unfold World.bornR
  rw[Array.getElem?_push,if_pos (by simp)]
  rfl
 refine hnext w.heap.size ct cb _ _ _ _ _ _ _ _ _ _ _ _ _ _ _ _ _ _ _ _ _ _ _ _ _ _ _ _ _ _ _ _ _ _ _ _ _ _ _ _ _ _ hwz ⟨hvw.os,hvw.output,by rw[hbz2];omega,fun j hj _=> ?_⟩ ⟨fun j u hu=> ?_,fun j=> ?_,by rw[hbz2];omega⟩ hg'
 ·rw[hbl j (by omega) (by omega) (by omega)]
  exact hvw.block j hj id
 ·unfold World.cell?
  simp only[hnw,Option.isSome_none,Bool.false_eq_true,if_false]
  rw[←List.getElem?_toArray] at hu
  exact hu
 ·unfold World.frozen?
  simp only[hnw]
  rfl
theorem chan_obj:plainO (.chan 0 #[] false 0 0 false)=true:=rfl
set_option maxRecDepth 100000 in
set_option maxHeartbeats 4000000 in
theorem begin_born {Z:Goal} {g:Gh} {lv p8 p9:Value} {v:World} {t:Tk} {d5:Nat} {cs:List Frame} {k:List Item}
 (hZ:Z.Ok Try.prog) (hg:g.Ok 0) (hoff:g.off=0) (hup:g.up=g.rs.length) (hn:g.n≠0) (k5:Cells v d5 t.cells)
 (hnext:∀(r ct cb:Nat) (v':World) (Jr Jm Jn Jy J1 Jv Jp Ju Jk Js Jw Jl Jz Jx J2 J0 Jt Jq Jo J8 J7 Ye J5 J6 Jb Jg Jd Jh Jf Ji Je Jc Jj Ja Ya Yc J9 J4 Yd Yb J3:Value),v.heap.size≤r→Chg (fun _=>False) v v'→Cells v' r (⟨t,⟨0,0,0⟩,0⟩:Ru).cells→(g.more r ct cb).Ok 0→
  Co Try.prog Z 0 ((g.more r ct cb).fx Try.prog κL 0) (G ((Go.Conc.base 39).at ⟨#[.pointer (some ⟨g.s,0,none⟩),lv,Jr,Jm,Jn,.pointer (some ⟨d5,0,none⟩),.pointer (some ⟨r,0,none⟩),lv,p8,p9,Jy,J1,Jv,Jp,Ju,Jk,Js,Jw,Jl,Jz,Jx,J2,J0,Jt,Jq,Jo,J8,J7,Ye,J5,J6,Jb,Jg,Jd,Jh,Jf,Ji,Je,Jc,Jj,Ja,Ya,Yc,J9,J4,Yd,Yb,J3],[]⟩ k) cs) v'):
 ∀(Jr Jm Jn Yk Jy J1 Jv Jp Ju Jk Js Jw Jl Jz Jx J2 J0 Jt Jq Jo J8 J7 Ye J5 J6 Jb Jg Jd Jh Jf Ji Je Jc Jj Ja Ya Yc J9 J4 Yd Yb J3:Value),Co Try.prog Z 0 (g.fx Try.prog κL 0) (G ((Go.Conc.base 39).at ⟨#[.pointer (some ⟨g.s,0,none⟩),lv,Jr,Jm,Jn,.pointer (some ⟨d5,0,none⟩),Yk,lv,p8,p9,Jy,J1,Jv,Jp,Ju,Jk,Js,Jw,Jl,Jz,Jx,J2,J0,Jt,Jq,Jo,J8,J7,Ye,J5,J6,Jb,Jg,Jd,Jh,Jf,Ji,Je,Jc,Jj,Ja,Ya,Yc,J9,J4,Yd,Yb,J3],[]⟩ (.code reg5::k)) cs) v:=by
 intro Jr Jm Jn Yk Jy J1 Jv Jp Ju Jk Js Jw Jl Jz Jx J2 J0 Jt Jq Jo J8 J7 Ye J5 J6 Jb Jg Jd Jh Jf Ji Je Jc Jj Ja Ya Yc J9 J4 Yd Yb J3
 have hX:=hg.fx κL_ok
 refine co_facts fun hnv hH hO=> ?_
 obtain⟨i35,h35⟩:=some35
 obtain⟨i115,h115⟩:=some115
 have er:reg5=.region 5 (opsC reg5) true:=by simp only[reg5,rest39,lb39,body39,Try.f39,Option.getD_some,fstC,sndC,inC,opsC]
 rw[er]
 refine co_region_draw hZ hX fun t0=> ?_
 simp only[Region.schedule,show Try.prog.follows .mixedOrders=true by rfl,Bool.true_or,if_true,Region.linearise]
 rw[show(opsC reg5).size=6 by simp only[reg5,rest39,lb39,body39,Try.f39,Option.getD_some,fstC,sndC,inC,opsC];rfl]
 have LD:∀(w:World),Cells w d5 t.cells→∀(a:Act) (rest:List Nat),a.tmps[5]?=some (.pointer (some ⟨d5,0,none⟩))→Co Try.prog Z 0 (g.fx Try.prog κL 0) (G ((Go.Conc.base 39).at (a.put (some 26) (.agg #[.int .i64 t.id,.int .i64 t.kind,.int .i64 t.pc,.int .i64 t.a,.int .i64 t.b,.int .i64 t.c,.int .i64 t.d])) (.inRegion (opsC reg5) rest::k)) cs) w→Co Try.prog Z 0 (g.fx Try.prog κL 0) (G ((Go.Conc.base 39).at a (.inRegion (opsC reg5) (0::rest)::k)) cs) w:=by
  intro w kw a rest e5 hc
  have q0:=kw.c 0 _ rfl
  have q1:=kw.c 1 _ rfl
  have q2:=kw.c 2 _ rfl
  have q3:=kw.c 3 _ rfl
  have q4:=kw.c 4 _ rfl
  have q5:=kw.c 5 _ rfl
  have q6:=kw.c 6 _ rfl
  obtain⟨tm,ds'⟩:=a
  simp only[reg5,rest39,lb39,body39,Try.f39,Option.getD_some,fstC,sndC,inC,opsC] at hc⊢
  refine co_op hZ hX TT.toTable (by decide) (R:=fun y u=>y=.agg #[.int .i64 t.id,.int .i64 t.kind,.int .i64 t.pc,.int .i64 t.a,.int .i64 t.b,.int .i64 t.c,.int .i64 t.d]∧Same u w) rfl rfl (by kernel_rfl) (fun u hu=> ?_) (fun y u hh=>by rw[hh.1];exact co_same hh.2 hc)
  have hcell:∀a,u.cell? a=w.cell? a:=fun a=>by unfold World.cell?;rw[hu.heap]
  refine⟨_,u, ?_,rfl,hu⟩
  simp only[←hcell] at q0 q1 q2 q3 q4 q5 q6
  simp only at e5
  simp[go_sem,execOp,e5,q0,q1,q2,q3,q4,q5,q6]
 have MT:∀(w:World) (a:Act) (rest:List Nat),Co Try.prog Z 0 (g.fx Try.prog κL 0) (G ((Go.Conc.base 39).at (a.put (some 27) (.chan (some w.heap.size))) (.inRegion (opsC reg5) rest::k)) cs) (w.alloc (.chan 0 #[] false 0 0 false))→Co Try.prog Z 0 (g.fx Try.prog κL 0) (G ((Go.Conc.base 39).at a (.inRegion (opsC reg5) (1::rest)::k)) cs) w:=by
  intro w a rest hc
  simp only[reg5,rest39,lb39,body39,Try.f39,Option.getD_some,fstC,sndC,inC,opsC] at hc⊢
  refine co_alloc hZ hX chan_obj (fun n=> .chan (some n)) rfl rfl (by decide) (fun w=> ?_) (fun w=> ?_) hc
  ·have:=run_makeChan (P:=Try.prog) (w:=w) Try.underlying99 h35 .i64 0 (by decide) (by simp)
   simp[execOp,Act.eval,show Sem.run Try.prog (Instr.makeChan 99 (Value.int IntKind.i64 0)) w=_ from this]
  ·have:=events_makeChan (P:=Try.prog) (w:=w) Try.underlying99 h35 .i64 0 (by decide) (by simp) #[]
   simpa[execOp,Act.eval] using this
 have MB:∀(w:World) (a:Act) (rest:List Nat),Co Try.prog Z 0 (g.fx Try.prog κL 0) (G ((Go.Conc.base 39).at (a.put (some 28) (.chan (some w.heap.size))) (.inRegion (opsC reg5) rest::k)) cs) (w.alloc (.chan 0 #[] false 0 0 false))→Co Try.prog Z 0 (g.fx Try.prog κL 0) (G ((Go.Conc.base 39).at a (.inRegion (opsC reg5) (2::rest)::k)) cs) w:=by
  intro w a rest hc
  simp only[reg5,rest39,lb39,body39,Try.f39,Option.getD_some,fstC,sndC,inC,opsC] at hc⊢
  refine co_alloc hZ hX chan_obj (fun n=> .chan (some n)) rfl rfl (by decide) (fun w=> ?_) (fun w=> ?_) hc
  ·have:=run_makeChan (P:=Try.prog) (w:=w) Try.underlying100 h115 .i64 0 (by decide) (by simp)
   simp[execOp,Act.eval,show Sem.run Try.prog (Instr.makeChan 100 (Value.int IntKind.i64 0)) w=_ from this]
  ·have:=events_makeChan (P:=Try.prog) (w:=w) Try.underlying100 h115 .i64 0 (by decide) (by simp) #[]
   simpa[execOp,Act.eval] using this
 have z1:(v.alloc (.chan 0 #[] false 0 0 false)).heap.size=v.heap.size+1:=alloc_size _ _
 have n1:=alloc_new v (.chan 0 #[] false 0 0 false)
 have n2:=alloc_new (v.alloc (.chan 0 #[] false 0 0 false)) (.chan 0 #[] false 0 0 false)
 have n3:=(alloc_old (v.alloc (.chan 0 #[] false 0 0 false)) (.chan 0 #[] false 0 0 false) (r:=v.heap.size) (by omega)).trans n1
 have cv:Chg (fun _=>False) v ((v.alloc (.chan 0 #[] false 0 0 false)).alloc (.chan 0 #[] false 0 0 false)):=(Chg.alloc _ v _).trans (Chg.alloc _ _ _) (fun _ _=>id)
 refine co_lin [0,1,2] (by kernel_rfl) (by simp) fun i hi t1=> ?_
 simp only[List.mem_cons,List.not_mem_nil,or_false] at hi
 rcases hi with rfl|rfl|rfl
 ·refine LD _ k5 _ _ rfl ?_
  walk_nrm
  refine co_lin [1,2] (by kernel_rfl) (by simp) fun i hi t2=> ?_
  simp only[List.mem_cons,List.not_mem_nil,or_false] at hi
  rcases hi with rfl|rfl
  ·refine MT _ _ _ ?_
   walk_nrm
   refine co_lin [2] (by kernel_rfl) (by simp) fun i hi t3=> ?_
   obtain rfl:=List.mem_singleton.1 hi
   refine MB _ _ _ ?_
   walk_nrm
   refine born_tail hZ hg hoff hup hn cv n3 n2 (by omega) (by omega) (by omega) hH hO (by kernel_rfl) (by kernel_rfl) (by kernel_rfl) hnext _ _ _ _ _ _ _ _ _ _ _ _ _ _ _ _ _ _ _ _ undef undef undef _ _ _ _ _ _ _ _ _ _ _ _ _ _ _ _ _ _ _
  ·refine MB _ _ _ ?_
   walk_nrm
   refine co_lin [1] (by kernel_rfl) (by simp) fun i hi t3=> ?_
   obtain rfl:=List.mem_singleton.1 hi
   refine MT _ _ _ ?_
   walk_nrm
   refine born_tail hZ hg hoff hup hn cv n2 n3 (by omega) (by omega) (by omega) hH hO (by kernel_rfl) (by kernel_rfl) (by kernel_rfl) hnext _ _ _ _ _ _ _ _ _ _ _ _ _ _ _ _ _ _ _ _ undef undef undef _ _ _ _ _ _ _ _ _ _ _ _ _ _ _ _ _ _ _
 ·refine MT _ _ _ ?_
  walk_nrm
  refine co_lin [0,2] (by kernel_rfl) (by simp) fun i hi t2=> ?_
  simp only[List.mem_cons,List.not_mem_nil,or_false] at hi
  rcases hi with rfl|rfl
  ·refine LD _ (k5.alloc _) _ _ rfl ?_
   walk_nrm
   refine co_lin [2] (by kernel_rfl) (by simp) fun i hi t3=> ?_
   obtain rfl:=List.mem_singleton.1 hi
   refine MB _ _ _ ?_
   walk_nrm
   refine born_tail hZ hg hoff hup hn cv n3 n2 (by omega) (by omega) (by omega) hH hO (by kernel_rfl) (by kernel_rfl) (by kernel_rfl) hnext _ _ _ _ _ _ _ _ _ _ _ _ _ _ _ _ _ _ _ _ undef undef undef _ _ _ _ _ _ _ _ _ _ _ _ _ _ _ _ _ _ _
  ·refine MB _ _ _ ?_
   walk_nrm
   refine co_lin [0] (by kernel_rfl) (by simp) fun i hi t3=> ?_
   obtain rfl:=List.mem_singleton.1 hi
   refine LD _ ((k5.alloc _).alloc _) _ _ rfl ?_
   walk_nrm
   refine born_tail hZ hg hoff hup hn cv n3 n2 (by omega) (by omega) (by omega) hH hO (by kernel_rfl) (by kernel_rfl) (by kernel_rfl) hnext _ _ _ _ _ _ _ _ _ _ _ _ _ _ _ _ _ _ _ _ undef undef undef _ _ _ _ _ _ _ _ _ _ _ _ _ _ _ _ _ _ _
 ·refine MB _ _ _ ?_
  walk_nrm
  refine co_lin [0,1] (by kernel_rfl) (by simp) fun i hi t2=> ?_
  simp only[List.mem_cons,List.not_mem_nil,or_false] at hi
  rcases hi with rfl|rfl
  ·refine LD _ (k5.alloc _) _ _ rfl ?_
   walk_nrm
   refine co_lin [1] (by kernel_rfl) (by simp) fun i hi t3=> ?_
   obtain rfl:=List.mem_singleton.1 hi
   refine MT _ _ _ ?_
   walk_nrm
   refine born_tail hZ hg hoff hup hn cv n2 n3 (by omega) (by omega) (by omega) hH hO (by kernel_rfl) (by kernel_rfl) (by kernel_rfl) hnext _ _ _ _ _ _ _ _ _ _ _ _ _ _ _ _ _ _ _ _ undef undef undef _ _ _ _ _ _ _ _ _ _ _ _ _ _ _ _ _ _ _
  ·refine MT _ _ _ ?_
   walk_nrm
   refine co_lin [0] (by kernel_rfl) (by simp) fun i hi t3=> ?_
   obtain rfl:=List.mem_singleton.1 hi
   refine LD _ ((k5.alloc _).alloc _) _ _ rfl ?_
   walk_nrm
   refine born_tail hZ hg hoff hup hn cv n2 n3 (by omega) (by omega) (by omega) hH hO (by kernel_rfl) (by kernel_rfl) (by kernel_rfl) hnext _ _ _ _ _ _ _ _ _ _ _ _ _ _ _ _ _ _ _ _ undef undef undef _ _ _ _ _ _ _ _ _ _ _ _ _ _ _ _ _ _ _
end Co
end Go.Proofs.Ytlngbdggehghgaa

namespace Go.Proofs.Ytlngbdggehghgaa
set_option linter.unusedSimpArgs false
set_option linter.unusedVariables false
namespace Co
open Go.Conc Go.RowKit
theorem start_ok {g:Gh} (hg:g.Ok 0) (hoff:g.off=0) {x:Wk} (hx:g.rs[g.up]?=some x) (hxi:x.i=g.n):g.start.Ok 0:=by
 obtain⟨hlt,hget⟩:=List.getElem?_eq_some_iff.1 hx
 have htk:g.rs.take (g.up+1)=g.rs.take g.up++[x]:=by rw[List.take_add_one,hx];rfl
 exact⟨hg.s,hg.r,hlt,hg.pos,hg.inj,.inl hoff,hg.ear,hg.chn,fun y hy=>by
  have hy':y∈g.rs.take (g.up+1):=hy
  rw[htk] at hy'
  show y.i<g.n+1
  rcases List.mem_append.1 hy' with h1|h1
  ·have:=hg.num y h1;omega
  ·simp only[List.mem_cons,List.not_mem_nil,or_false] at h1
   subst h1;omega,hg.few,hg.m0⟩
noncomputable def reg6b:Code:=fstC (sndC rest39)
noncomputable def reg7b:Code:=fstC (sndC (sndC rest39))
noncomputable def reg8b:Code:=sndC (sndC (sndC rest39))
set_option maxRecDepth 100000 in
set_option maxHeartbeats 4000000 in
theorem begin_add {Z:Goal} {g:Gh} {v:World} {cs:List Frame} {k:List Item} (hZ:Z.Ok Try.prog) (hg:g.Ok 0) (hm0:g.m0=none) (hon:g.on=true) (hear:g.ear=true) (hoff:g.off=0) (hlim:g.lim=0) (hcnt:g.cnt<400)
 {Yf Jr Jm Jn Yi Yk Yj Yg Yh Jy J1 Jv Jp Ju Jk Js Jw Jl Jz Jx J2 J0 Jt Jq Jo J8 J7 Ye J5 J6 Jb Jg Jd Jh Jf Ji Je Jc Jj Ja Ya Yc J9 J4 Yd Yb J3:Value} (hnext:Co Try.prog Z 0 ((g.set (g.cnt+1) 0 true).fx Try.prog κL 0) (G ((Go.Conc.base 39).at ⟨#[.pointer (some ⟨g.s,0,none⟩),Yf,Jr,Jm,Jn,Yi,Yk,Yj,Yg,Yh,Jy,J1,Jv,Jp,Ju,Jk,Js,Jw,Jl,Jz,Jx,J2,J0,Jt,Jq,Jo,J8,J7,Ye,J5,J6,Jb,Jg,Jd,Jh,Jf,Ji,Je,Jc,Jj,Ja,.pointer (some ⟨g.s,0,none⟩),.pointer (some ⟨g.s,0,none⟩),.pointer (some ⟨g.s,5,none⟩),.tuple #[],Yd,Yb,J3],[]⟩ k) cs) v):
 Co Try.prog Z 0 (g.fx Try.prog κL 0) (G ((Go.Conc.base 39).at ⟨#[.pointer (some ⟨g.s,0,none⟩),Yf,Jr,Jm,Jn,Yi,Yk,Yj,Yg,Yh,Jy,J1,Jv,Jp,Ju,Jk,Js,Jw,Jl,Jz,Jx,J2,J0,Jt,Jq,Jo,J8,J7,Ye,J5,J6,Jb,Jg,Jd,Jh,Jf,Ji,Je,Jc,Jj,Ja,Ya,Yc,J9,J4,Yd,Yb,J3],[]⟩ (.code reg7b::k)) cs) v:=by
 have hJ:=Co.calmly (v:=v) hZ (hg.fx κL_ok)
 have e7:reg7b=.region 7 (opsC reg7b) false:=by simp only[reg7b,rest39,lb39,body39,Try.f39,Option.getD_some,fstC,sndC,inC,opsC]
 have hgs:(g.set (g.cnt+1) 0 true).Ok 0:=hg.set _ _ _ (by omega)
 have hJ2:=Co.calmly (v:=v) hZ (hgs.fx κL_ok)
 have h:=add_pos (Z:=Z) (g:=g) (v:=v) hZ hg hm0 hon hear hoff hlim hcnt (b₀:=Go.Conc.base 39) (i₀:=3) (rest₀:=[]) (k₀:=k) (ops₀:=opsC reg7b) (a₀:=⟨#[.pointer (some ⟨g.s,0,none⟩),Yf,Jr,Jm,Jn,Yi,Yk,Yj,Yg,Yh,Jy,J1,Jv,Jp,Ju,Jk,Js,Jw,Jl,Jz,Jx,J2,J0,Jt,Jq,Jo,J8,J7,Ye,J5,J6,Jb,Jg,Jd,Jh,Jf,Ji,Je,Jc,Jj,Ja,.pointer (some ⟨g.s,0,none⟩),.pointer (some ⟨g.s,0,none⟩),.pointer (some ⟨g.s,5,none⟩),J4,Yd,Yb,J3],[]⟩) (cs:=cs) ?_
 ·rw[e7]
  simp only[body62,Try.f62,Option.getD_some,reg7b,rest39,lb39,body39,Try.f39,fstC,sndC,inC,opsC] at h⊢
  refine c_region (n:=0) (J:=fun _ a=>Co Try.prog Z 0 (g.fx Try.prog κL 0) a v) hJ [0,1,2,3] rfl ?_
  refine c_value (n:=0) (J:=fun _ a=>Co Try.prog Z 0 (g.fx Try.prog κL 0) a v) hJ (.pointer (some ⟨g.s,0,none⟩)) rfl rfl (by decide) (fun _=>by simp[go_sem,execOp,Act.eval]) (fun _=>by simp[go_sem,execOp,Act.eval]) ?_
  walk_nrm
  refine c_value (n:=0) (J:=fun _ a=>Co Try.prog Z 0 (g.fx Try.prog κL 0) a v) hJ (.pointer (some ⟨g.s,0,none⟩)) rfl rfl (by decide) (fun _=>by simp[go_sem,execOp,Act.eval]) (fun _=>by simp[go_sem,execOp,Act.eval]) ?_
  walk_nrm
  refine c_value (n:=0) (J:=fun _ a=>Co Try.prog Z 0 (g.fx Try.prog κL 0) a v) hJ (.pointer (some ⟨g.s,5,none⟩)) rfl rfl (by decide) (fun _=>by simp[go_sem,execOp,Act.eval]) (fun _=>by simp[go_sem,execOp,Act.eval]) ?_
  walk_nrm
  refine c_call (n:=0) (J:=fun _ a=>Co Try.prog Z 0 (g.fx Try.prog κL 0) a v) hJ rfl rfl (by decide) rfl Try.func62 (by kernel_rfl) rfl ?_
  simp only[Try.f62]
  walk_nrm
  exact h
 ·simp only[reg7b,rest39,lb39,body39,Try.f39,Option.getD_some,fstC,sndC,inC,opsC]
  walk_nrm
  refine c_region_end (n:=0) (J:=fun _ a=>Co Try.prog Z 0 ((g.set (g.cnt+1) 0 true).fx Try.prog κL 0) a v) hJ2 ?_
  exact hnext
set_option maxRecDepth 100000 in
set_option maxHeartbeats 4000000 in
theorem begin_go {Z:Goal} {g:Gh} {v:World} {cs:List Frame} {k:List Item} {r ct cb:Nat} (hZ:Z.Ok Try.prog) (hg:g.Ok 0) (hm0:g.m0=none) (hear:g.ear=true) (hoff:g.off=0) (hx:g.rs[g.up]?=some ⟨g.n,r,ct,cb⟩)
 {Yf Jr Jm Jn Yi Yj Yg Yh Jy J1 Jv Jp Ju Jk Js Jw Jl Jz Jx J2 J0 Jt Jq Jo J8 J7 Ye J5 J6 Jb Jg Jd Jh Jf Ji Je Jc Jj Ja Ya Yc J9 J4 Yd Yb J3:Value} (hnext:g.start.Ok 0→Co Try.prog Z 0 (g.start.fx Try.prog κL 0) (G ((Go.Conc.base 39).at ⟨#[.pointer (some ⟨g.s,0,none⟩),Yf,Jr,Jm,Jn,Yi,.pointer (some ⟨r,0,none⟩),Yj,Yg,Yh,Jy,J1,Jv,Jp,Ju,Jk,Js,Jw,Jl,Jz,Jx,J2,J0,Jt,Jq,Jo,J8,J7,Ye,J5,J6,Jb,Jg,Jd,Jh,Jf,Ji,Je,Jc,Jj,Ja,Ya,Yc,J9,J4,.pointer (some ⟨g.s,0,none⟩),.pointer (some ⟨r,0,none⟩),J3],[]⟩ k) cs) v):
 Co Try.prog Z 0 (g.fx Try.prog κL 0) (G ((Go.Conc.base 39).at ⟨#[.pointer (some ⟨g.s,0,none⟩),Yf,Jr,Jm,Jn,Yi,.pointer (some ⟨r,0,none⟩),Yj,Yg,Yh,Jy,J1,Jv,Jp,Ju,Jk,Js,Jw,Jl,Jz,Jx,J2,J0,Jt,Jq,Jo,J8,J7,Ye,J5,J6,Jb,Jg,Jd,Jh,Jf,Ji,Je,Jc,Jj,Ja,Ya,Yc,J9,J4,Yd,Yb,J3],[]⟩ (.code reg8b::k)) cs) v:=by
 have hJ:=Co.calmly (v:=v) hZ (hg.fx κL_ok)
 have e8:reg8b=.region 8 (opsC reg8b) false:=by simp only[reg8b,rest39,lb39,body39,Try.f39,Option.getD_some,fstC,sndC,inC,opsC]
 rw[e8]
 simp only[reg8b,rest39,lb39,body39,Try.f39,Option.getD_some,fstC,sndC,inC,opsC]
 refine c_region (n:=0) (J:=fun _ a=>Co Try.prog Z 0 (g.fx Try.prog κL 0) a v) hJ [0,1,2] rfl ?_
 refine c_value (n:=0) (J:=fun _ a=>Co Try.prog Z 0 (g.fx Try.prog κL 0) a v) hJ (.pointer (some ⟨g.s,0,none⟩)) rfl rfl (by decide) (fun _=>by simp[go_sem,execOp,Act.eval]) (fun _=>by simp[go_sem,execOp,Act.eval]) ?_
 walk_nrm
 refine c_value (n:=0) (J:=fun _ a=>Co Try.prog Z 0 (g.fx Try.prog κL 0) a v) hJ (.pointer (some ⟨r,0,none⟩)) rfl rfl (by decide) (fun _=>by simp[go_sem,execOp,Act.eval]) (fun _=>by simp[go_sem,execOp,Act.eval]) ?_
 walk_nrm
 have hmem:(⟨g.n,r,ct,cb⟩:Wk)∈g.rs:=List.mem_of_getElem? hx
 refine(co_spawn (x:=⟨g.n,r,ct,cb⟩) hZ κL_ok hg hoff hm0 hear hx rfl rfl (a':= ?_) (child:=born Try.prog (dcall 63 #[.pointer (some ⟨g.s,0,none⟩),.pointer (some ⟨r,0,none⟩)])) (fun w=> ?_) (fun B hB=> ?_) ?_).2
 ·exact G ((Go.Conc.base 39).at ⟨#[.pointer (some ⟨g.s,0,none⟩),Yf,Jr,Jm,Jn,Yi,.pointer (some ⟨r,0,none⟩),Yj,Yg,Yh,Jy,J1,Jv,Jp,Ju,Jk,Js,Jw,Jl,Jz,Jx,J2,J0,Jt,Jq,Jo,J8,J7,Ye,J5,J6,Jb,Jg,Jd,Jh,Jf,Ji,Je,Jc,Jj,Ja,Ya,Yc,J9,J4,.pointer (some ⟨g.s,0,none⟩),.pointer (some ⟨r,0,none⟩),J3],[]⟩ (.inRegion (opsC reg8b) []::k)) cs
 ·simp only[reg8b,rest39,lb39,body39,Try.f39,Option.getD_some,fstC,sndC,inC,opsC]
  refine(stepG_spawn (d:=dcall 63 #[.pointer (some ⟨g.s,0,none⟩),.pointer (some ⟨r,0,none⟩)]) (w':=w) rfl rfl (by decide) ?_ rfl).trans ?_
  ·simp[go_sem,execOp,Act.eval,dcall]
  ·rw[listed_none (by simp[go_sem,execOp,Act.eval])]
   rfl
 ·exact l_birth (fun w hw=>(hw _ hmem).1) ⟨_,hmem,.inl rfl⟩ hB
 ·have hst:g.start.Ok 0:=start_ok hg hoff hx rfl
  refine c_region_end (n:=0) (J:=fun _ a=>Co Try.prog Z 0 (g.start.fx Try.prog κL 0) a v) (Co.calmly hZ (hst.fx κL_ok)) ?_
  exact hnext hst
end Co
end Go.Proofs.Ytlngbdggehghgaa

namespace Go.Proofs.Ytlngbdggehghgaa
set_option linter.unusedSimpArgs false
set_option linter.unusedVariables false
theorem SM.lt {o:Option Nat} {B s:Nat} {bs:List Nat} {tv uv:Value} {S:SS} {w:World} (h:SM o B s bs tv uv S w):∀k,SMf s bs tv uv k→B≤k∧k<w.heap.size:=by
 rintro k (rfl|hk|hk|hk)
 ·exact⟨h.sB,h.box.lt⟩
 ·obtain⟨i,hi,rfl⟩:=List.getElem_of_mem hk
  have hi2:i<S.rs.length:=by rw[←h.len];exact hi
  exact⟨h.bB _ hk,(h.runs i _ _ (List.getElem?_eq_getElem hi) (List.getElem?_eq_getElem hi2)).lt⟩
 ·exact h.tasks.lt k hk
 ·exact h.turns.lt k hk
theorem Cells.tasks {w:World} {s:Nat} {a b c d e:Value} (h:Cells w s [a,b,c,d,e]) (y:Value):Cells (w.setCell ⟨s,1,none⟩ y) s [a,y,c,d,e]:=by
 refine⟨fun j u hu=> ?_,fun j=>by simp[h.f j],by simpa using h.lt⟩
 by_cases e:j=1
 ·subst e
  rw[World.cell?_setCell_same w _ _ (by rw[h.c 1 _ rfl])]
  exact hu
 ·rw[World.cell?_setCell_other w _ _ _ (fun e2=>by injection e2;omega)]
  refine h.c j u ?_
  match j,hu,e with
  |0,hu,_=>exact hu
  |2,hu,_=>exact hu
  |3,hu,_=>exact hu
  |4,hu,_=>exact hu
  |n+5,hu,_=>simp at hu
theorem SS.Ok.add {S:SS} (h:S.Ok) (hlen:S.rs.length<200) (t:Tk):(addS S t).Ok:=by
 refine⟨?_,h.most,h.cnt,fun r hr=> ?_,fun i r hi=> ?_⟩
 ·simp[addS];omega
 ·rcases List.mem_append.1 hr with hr|hr
  ·exact h.age r hr
  ·obtain rfl:=List.mem_singleton.1 hr
   show(0:Int)≤0∧(0:Int)≤(S.turns.length:Int)
   omega
 ·have hi':(S.rs++[newR S.rs.length t])[i]?=some r:=hi
  by_cases e:i<S.rs.length
  ·rw[List.getElem?_append_left e] at hi'
   exact h.ids i r hi'
  ·rw[List.getElem?_append_right (by omega)] at hi'
   have e2:i-S.rs.length=0:=by
    have:=(List.getElem?_eq_some_iff.1 hi').1
    simp at this;omega
   rw[e2] at hi'
   obtain rfl:=Option.some.inj hi'
   show(S.rs.length:Int)+1=(i:Int)+1
   omega
theorem SM.add {o:Option Nat} {B s r:Nat} {bs:List Nat} {tv tv' uv:Value} {S:SS} {v w:World} {t:Tk} (h:SM o B s bs tv uv S v) (hlen:S.rs.length<200) (hr:∀k,SMf s bs tv uv k→k<r) (hrB:B≤r)
 (hbox:Cells w s [WV o,tv',uv,.int .i64 S.most,.bool S.closed]) (hown:Own ptR 98 B w tv' (bs++[r])) (hrun:Cells w r (newR S.rs.length t).cells)
 (htv:tv'.ownBlock=tv.ownBlock∨∃k,tv'.ownBlock=some k∧r<k) (hc:Chg (fun k=>k=s∨tv.ownBlock=some k) v w):SM o B s (bs++[r]) tv' uv (addS S t) w:=by
 have hrs:r≠s:=by have:=hr s (.inl rfl);omega
 have hrb:∀b∈bs,b≠r:=fun b hb=>by have:=hr b (.inr (.inl hb));omega
 have hus:∀k,uv.ownBlock=some k→k<r:=fun k hk=>hr k (.inr (.inr (.inr hk)))
 refine⟨hbox,hown,h.turns.chg tnR_flat hc fun k hk e=> ?_,by simp[addS,h.len],fun i b ru hb hru=> ?_, ?_,h.sB, ?_, ?_,fun k hk=> ?_,fun k hk=> ?_,h.ok.add hlen t⟩
 ·rcases e with e|e
  ·exact(h.aq k hk).1 e
  ·exact h.tasks.apart h.turns (by decide) k e hk
 ·have hru':(S.rs++[newR S.rs.length t])[i]?=some ru:=hru
  by_cases e:i<bs.length
  ·rw[List.getElem?_append_left e] at hb
   rw[List.getElem?_append_left (by rw[←h.len];exact e)] at hru'
   refine(h.runs i b ru hb hru').chg hc fun e=> ?_
   have hbm:=List.mem_of_getElem? hb
   rcases e with e|e
   ·exact h.sb (e▸hbm)
   ·exact(h.ap b e).2 hbm
  ·rw[List.getElem?_append_right (by omega)] at hb
   rw[List.getElem?_append_right (by rw[←h.len];omega)] at hru'
   have e2:i-bs.length=0:=by
    have:=(List.getElem?_eq_some_iff.1 hb).1
    simp at this;omega
   rw[e2] at hb
   rw[←h.len,e2] at hru'
   obtain rfl:=Option.some.inj hb
   obtain rfl:=Option.some.inj hru'
   rw[h.len]
   exact hrun
 ·rw[List.nodup_append]
  exact⟨h.nd,by simp,fun a ha b hb=>by obtain rfl:=List.mem_singleton.1 hb;exact hrb a ha⟩
 ·intro b hb
  rcases List.mem_append.1 hb with hb|hb
  ·exact h.bB b hb
  ·obtain rfl:=List.mem_singleton.1 hb
   exact hrB
 ·intro hm
  rcases List.mem_append.1 hm with hm|hm
  ·exact h.sb hm
  ·exact hrs (List.mem_singleton.1 hm).symm
 ·rcases htv with e|⟨k',e,hk'⟩
  ·rw[hk] at e
   have h1:=h.ap k e.symm
   refine⟨h1.1,fun hm=> ?_⟩
   rcases List.mem_append.1 hm with hm|hm
   ·exact h1.2 hm
   ·have:=hr k (.inr (.inr (.inl e.symm)))
    have:=List.mem_singleton.1 hm
    omega
  ·rw[hk] at e
   obtain rfl:=Option.some.inj e
   refine⟨fun e2=>by have:=hr s (.inl rfl);omega,fun hm=> ?_⟩
   rcases List.mem_append.1 hm with hm|hm
   ·have:=hr k (.inr (.inl hm));omega
   ·have:=List.mem_singleton.1 hm;omega
 ·have h1:=h.aq k hk
  refine⟨h1.1,fun hm=> ?_⟩
  rcases List.mem_append.1 hm with hm|hm
  ·exact h1.2 hm
  ·have:=hus k hk
   have:=List.mem_singleton.1 hm
   omega
namespace Co
open Go.Conc Go.RowKit
set_option maxRecDepth 100000 in
set_option maxHeartbeats 4000000 in
theorem begin_append {Z:Goal} {X:Fx} {o:Option Nat} {B s r:Nat} {bs:List Nat} {tv uv:Value} {S:SS} {v:World} {t:Tk} {cs:List Frame} {k:List Item}
 (hZ:Z.Ok Try.prog) (hX:X.Ok Try.prog 0) (h:SM o B s bs tv uv S v) (hlen:S.rs.length<200) (hr:∀k,SMf s bs tv uv k→k<r) (hrB:B≤r) (hrun:Cells v r (newR S.rs.length t).cells)
 {Yf Jr Jm Jn Yi Yj Yg Yh Jy J1 Jv Jp Ju Jk Js Jw Jl Jz Jx J2 J0 Jt Jq Jo J8 J7 Ye J5 J6 Jb Jg Jd Jh Jf Ji Je Jc Jj Ja Ya Yc J9 J4 Yd Yb J3:Value} (hnext:∀(v':World) (tv':Value) (Jb Jg Jd Jh Jf Ji Je Jc Jj Ja:Value),SM o B s (bs++[r]) tv' uv (addS S t) v'→Chg (fun k=>k=s∨tv.ownBlock=some k) v v'→(tv'.ownBlock=tv.ownBlock∨∃k,tv'.ownBlock=some k∧v.heap.size≤k)→
  Co Try.prog Z 0 X (G ((Go.Conc.base 39).at ⟨#[.pointer (some ⟨s,0,none⟩),Yf,Jr,Jm,Jn,Yi,.pointer (some ⟨r,0,none⟩),Yj,Yg,Yh,Jy,J1,Jv,Jp,Ju,Jk,Js,Jw,Jl,Jz,Jx,J2,J0,Jt,Jq,Jo,J8,J7,Ye,J5,J6,Jb,Jg,Jd,Jh,Jf,Ji,Je,Jc,Jj,Ja,Ya,Yc,J9,J4,Yd,Yb,J3],[]⟩ k) cs) v'):
 Co Try.prog Z 0 X (G ((Go.Conc.base 39).at ⟨#[.pointer (some ⟨s,0,none⟩),Yf,Jr,Jm,Jn,Yi,.pointer (some ⟨r,0,none⟩),Yj,Yg,Yh,Jy,J1,Jv,Jp,Ju,Jk,Js,Jw,Jl,Jz,Jx,J2,J0,Jt,Jq,Jo,J8,J7,Ye,J5,J6,Jb,Jg,Jd,Jh,Jf,Ji,Je,Jc,Jj,Ja,Ya,Yc,J9,J4,Yd,Yb,J3],[]⟩ (.code reg6b::k)) cs) v:=by
 simp only[reg6b,rest39,lb39,body39,Try.f39,Option.getD_some,fstC,sndC,inC]
 refine co_code hZ hX TT (by decide) (by kernel_rfl) (by kernel_rfl) fun K hK u hu=> ?_
 have c0:=same_chg (F:=fun _=>False) hu
 have h':=h.chg c0 (fun _ _=>id)
 have hrun':=hrun.chg c0 id
 have H0:=Hd.mk h
 have H1:=Hd.mk h'
 have HR:=Hd.mk hrun'
 have HN:=Hd.mk hnext
 have C0:=Hd.mk c0
 have hsz:=Hd.mk (show u.heap.size=v.heap.size by rw[hu.heap])
 clear hu hnext h hrun
 have c1:=h'.box.c 1 _ rfl
 have cf:=h'.box.f 1
 have slt:=h'.box.lt
 have hbl:=h'.len
 have hBu:=Hd.mk (show B≤u.heap.size from Nat.le_of_lt (Nat.lt_of_le_of_lt h'.sB slt))
 obtain⟨tA,tc,e,ht1,ht2⟩:=h'.lenv
 have HO:=Lib.hid h'.tasks
 have hsA:tA≠none→True:=fun _=>trivial
 have hap:=Lib.hid h'.ap
 clear h' hrun' c0
 subst e
 have Hbl:=Lib.hid hbl
 clear hbl
 go_wp2_with (at_builtin;refine wpList_append_sl _ rfl (.tmp 35) (.tmp 37) 49 rfl ptR B 98 _ 8 Try.underlying49 infoP rfl (by decide) _ bs rfl (HO.out.up (ba _ _)) _ [r] rfl (slP_one _ _ _ _ rfl) (by have:=Hbl.out;simp;omega) (by decide) (by simp;exact Nat.le_succ_of_le hBu.out) (fun w' _ cs y h=>ptR_flat _ _ _ _ h) ?_;intro v1 w2 hown1 hg1 hv1;obtain⟨vA,vc,rfl,_,_,hown1⟩:=hown1.form;have CC:=Lib.hid (show Chg (fun k=>(Value.slice tA S.rs.length tc).ownBlock=some k) u w2 from(Chg.alloc _ u _).trans (Chg.grown hg1 (fun k e=>e)) (fun _ _=>id));have c12:=CC.out.cell c1 (fun e=>(hap.out s e).1 rfl);have f12:=(CC.out.frozen (a:=⟨s,1,none⟩) slt (fun e=>(hap.out s e).1 rfl)).trans cf;have s12:=Nat.lt_of_lt_of_le slt CC.out.size;have HO1:=Lib.hid hown1;have HV1:=Lib.hid hv1;clear hown1 hg1 hv1)
 refine hK.out _ _ ?_
 have hv:(Value.slice vA (bs++[r]).length vc).ownBlock=(Value.slice tA S.rs.length tc).ownBlock∨(Value.slice vA (bs++[r]).length vc).ownBlock=some (u.heap.size+1):=by
  have h1:=HV1.out
  rw[alloc_size] at h1
  exact h1
 have hrs:=hr s (.inl rfl)
 have hru:=HR.out.lt
 have hns:∀k,(Value.slice vA (bs++[r]).length vc).ownBlock=some k→k≠s:=fun k hk e=>by
  subst e
  rcases hv with h1|h1
  ·rw[hk] at h1
   exact(hap.out k h1.symm).1 rfl
  ·rw[hk] at h1
   have:=Option.some.inj h1
   omega
 have c3:Chg (fun k=>k=s∨(Value.slice tA S.rs.length tc).ownBlock=some k) u (w2.setCell ⟨s,1,none⟩ (.slice vA (bs++[r]).length vc)):=(CC.out.mono (fun _ _=>Or.inr)).trans (Chg.set w2 _ (.inl rfl)) (fun _ _=>id)
 rw[show bs.length+1=(bs++[r]).length by simp]
 refine HN.out _ (.slice vA (bs++[r]).length vc) _ _ _ _ _ _ _ _ _ _ (H1.out.add hlen hr hrB ((H1.out.box.chg CC.out (fun e=>(hap.out s e).1 rfl)).tasks _) (HO1.out.chg ptR_flat (Chg.set (F:=fun k=>k=s) w2 _ rfl) hns) (HR.out.chg c3 (fun e=> ?_)) ?_ c3) ((C0.out.mono (fun _ _ e=>e.elim)).trans c3 (fun _ _=>id)) ?_
 ·rcases e with e|e
  ·omega
  ·have:=hr r (.inr (.inr (.inl e)))
   omega
 ·exact hv.imp id fun e=>⟨_,e,by omega⟩
 ·exact hv.imp id fun e=>⟨_,e,by have:=hsz.out;omega⟩
end Co
end Go.Proofs.Ytlngbdggehghgaa
