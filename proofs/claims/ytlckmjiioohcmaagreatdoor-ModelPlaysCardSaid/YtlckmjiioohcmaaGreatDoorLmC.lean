/-
  Walks of groundlingref15.Ints and groundlingref15.Same at equal arguments; cells that read as a list. Conditions: as each theorem says.
  Walks of groundlinglaw23.Venue, example, same. Conditions: none.
  Walks of groundlinglaw23.same and groundlingref23.Same at equal arguments. Conditions: as each theorem says.
  Walk of groundlinglaw23.shown: the examples of the document. Conditions: the pinned table lies where it was laid.
-/
import Derived.Test.YtlckmjiioohcmaaGreatDoorVnI
import Derived.BigRegion
import Derived.Deep.CutRange
import Derived.Test.YtlckmjiioohcmaaGreatDoorLib
import Derived.Test.YtlckmjiioohcmaaGreatDoorMdY
import Derived.BigQuiet
namespace Go.Proofs.YtlckmjiioohcmaaGreatDoor
open Go.RowKit
theorem Sl.cap {α:Type} {R:Rep α} {w:World} {A:Option Addr} {n c:Nat} {xs:List α} (h:Sl R w (.slice A n c) xs):xs.length≤c∧c≤9223372036854775807:=by
 obtain⟨A',c',he,hc,hm,_⟩:=h
 injection he with e1 e2 e3
 subst e3
 exact⟨hc,hm⟩
theorem eq_of_at {α:Type} {xs ys:List α} (hl:xs.length=ys.length) (h:∀j,(h1:j<xs.length)→(h2:j<ys.length)→xs[j]=ys[j]):xs=ys:=List.ext_getElem hl h
set_option maxHeartbeats 2000000 in
theorem ints_any {w:World} {A B:Option Addr} {ca cb:Nat} {xs ys:List Int} (ha:Sl intR w (.slice A xs.length ca) xs) (hb:Sl intR w (.slice B ys.length cb) ys):
 Calls Tryz.prog 57 #[.slice A xs.length ca,.slice B ys.length cb] w fun e w'=>e=.returned (.bool (decide (xs=ys)))∧Below w.heap.size w w':=by
 have hca:=ha.cap
 have hcb:=hb.cap
 have HA:=Lib.hid ha
 have HB:=Lib.hid hb
 clear ha hb
 by_cases hl:xs.length=ys.length
 case neg=>
  have t0:((xs.length:Int) !=(ys.length:Int))=true:=by simp;omega
  have hT:=Lib.hid (show decide (xs=ys)=false from decide_eq_false fun h=>hl (by rw[h]))
  generalize decide (xs=ys)=M at hT⊢
  go_enter Tryz.func57,Tryz.ntmps57
  go_wp2_with fail
  go_ret
  exact⟨ret_bool hT.out.symm,Below.refl _ _⟩
 have t0:((xs.length:Int) !=(ys.length:Int))=false:=by simp;omega
 have HL:=Lib.hid hl
 have hll:ys.length≤xs.length:=by omega
 clear hl
 obtain⟨M,hM⟩:∃M,decide (xs=ys)=M:=⟨_,rfl⟩
 rw[hM]
 have HM:=Lib.hid hM
 clear hM
 go_enter Tryz.func57,Tryz.ntmps57
 go_wp2_with fail
 go_loopw [5] (fun i wr=> ∃k:Nat,k≤xs.length∧i=.int .i64 k∧Hid (Below w.heap.size w wr)∧Hid (∀j,(h1:j<xs.length)→(h2:j<ys.length)→j<k→xs[j]=ys[j])) (fun i _=>xs.length-(intOf i).toNat)
 case atStart=>exact⟨0,by omega,rfl,Lib.hid (Below.refl _ _),Lib.hid fun j _ _ h=>by omega⟩
 case round=>
  obtain⟨k,hk,rfl,HW,hall⟩:=hrel
  by_cases hlt:k<xs.length
  ·have hlt2:k<ys.length:=by have:=HL.out;omega
   obtain⟨b1,o1,hA,_,d0,_⟩:=(HA.out.up HW.out).atI hlt
   obtain⟨b2,o2,hB,_,e0,_⟩:=(HB.out.up HW.out).atI hlt2
   subst hA
   subst hB
   have hne:=Lib.hid (show xs[k]≠ys[k]→M=false from fun h=>by rw[←HM.out];exact decide_eq_false fun e=>h (by simp only[e]))
   have hnx:=Lib.hid (show xs[k]=ys[k]→∀j,(h1:j<xs.length)→(h2:j<ys.length)→j<k+1→xs[j]=ys[j] from fun h j h1 h2 hj=>by
    by_cases e:j=k
    ·subst e;exact h
    ·exact hall.out j h1 h2 (by omega))
   generalize xs[k]=x at d0 hne hnx
   generalize ys[k]=y at e0 hne hnx
   by_cases h1:x=y
   ·subst h1
    go_wp2_with fail
    go_quiet (fail)
    go_wp2_with fail
    go_roundw
    case rel=>exact⟨k+1,by omega,by go_num,Lib.hid (bdN HW.out _),Lib.hid (hnx.out (by first|trivial|rfl))⟩
    case measure=>simp[intOf];omega
   ·have t1:(x==y)=false:=by simpa using h1
    have t2:(x !=y)=true:=by simpa using h1
    have hm:=Lib.hid (hne.out h1)
    go_wp2_with fail
    go_quiet (fail)
    go_wp2_with fail
    go_ret
    exact⟨ret_bool hm.out.symm,bdN HW.out _⟩
  ·have hm:=Lib.hid (show M=true by rw[←HM.out];exact decide_eq_true (eq_of_at HL.out fun j h1 h2=>hall.out j h1 h2 (by omega)))
   go_wp2_with fail
   go_ret
   exact⟨ret_bool hm.out.symm,HW.out⟩
theorem Cells.newR (w:World) (cs:List Value) (t:TypeId) (g:Nat) (hg:g=w.heap.size):Cells (w.alloc (.cells cs.toArray t)) g cs:=hg▸Cells.new w cs t
set_option maxRecDepth 100000 in
set_option maxHeartbeats 4000000 in
theorem sameVe_any {w:World} {V V':Option Addr} {vc vc':Nat} {x:Ve} (h:Sl secR w (.slice V x.secs.length vc) x.secs) (h':Sl secR w (.slice V' x.secs.length vc') x.secs):
 Calls Tryz.prog 30 #[.agg #[.int .i64 x.shards,.int .i64 x.ttl,.int .i64 x.session,.slice V x.secs.length vc],.agg #[.int .i64 x.shards,.int .i64 x.ttl,.int .i64 x.session,.slice V' x.secs.length vc']] w fun e w'=>e=.returned (.bool true)∧Below w.heap.size w w':=by
 have HV:=Lib.hid h
 have HV':=Lib.hid h'
 have hcap:=h.cap
 clear h h'
 obtain⟨sh,ttl,ses,secs⟩:=x
 dsimp only at*
 obtain⟨cs,hcs⟩:∃cs:List Value,cs=[.int .i64 sh,.int .i64 ttl,.int .i64 ses,.slice V secs.length vc]:=⟨_,rfl⟩
 obtain⟨cs',hcs'⟩:∃cs:List Value,cs=[.int .i64 sh,.int .i64 ttl,.int .i64 ses,.slice V' secs.length vc']:=⟨_,rfl⟩
 go_enter Tryz.func30,Tryz.ntmps30
 go_wp2_with fail
 obtain⟨q,hq⟩:∃q,w.heap.size=q:=⟨_,rfl⟩
 rw[hq]
 refine at_world (fun W=>Below w.heap.size w W∧Cells W q cs∧Cells W (q+1) cs') ⟨bal (ba _ _),by rw[hcs];exact(Cells.newR _ _ _ _ hq.symm).alloc _,by rw[hcs'];exact Cells.newR _ _ _ _ (by simp[hq])⟩ fun w1 ⟨hb1,k1,k2⟩=> ?_
 have HB1:=Lib.hid hb1
 have K1:=Lib.hid k1
 have K2:=Lib.hid k2
 have HCS:=Lib.hid hcs
 have HCS':=Lib.hid hcs'
 clear hb1 k1 k2 hcs hcs' hq
 go_loopw [5] (fun iv wr=> ∃i:Nat,i≤secs.length∧iv=.int .i64 i∧Hid (Below w1.heap.size w1 wr)) (fun iv _=>secs.length-(intOf iv).toNat)
 case atStart=>exact⟨0,by omega,rfl,Lib.hid (Below.refl _ _)⟩
 case round=>
  obtain⟨i,hi,rfl,D⟩:=hrel
  have D':=Lib.hid (HB1.out.trans (D.out.mono HB1.out.size))
  have k1:=K1.out.later D.out
  have k2:=K2.out.later D.out
  rw[HCS.out] at k1
  rw[HCS'.out] at k2
  have c3:=k1.c 3 _ rfl
  have e3:=k2.c 3 _ rfl
  have y0:=k1.lt
  have y1:=k2.lt
  clear k1 k2
  by_cases hlt:i<secs.length
  ·obtain⟨b,off,A,c,hA,hbl,d0,d1,d2,hin,_,_⟩:=(HV.out.up D'.out).atS hlt
   obtain⟨b',off',A',c',hA',hbl',d0',d1',d2',hin',_,_⟩:=(HV'.out.up D'.out).atS hlt
   subst hA hA'
   have hi0:(0:Int)≤(i:Int):=by omega
   have hi1:(i:Int)<(secs.length:Int):=by omega
   have hI:=Lib.hid hin
   have hI':=Lib.hid hin'
   clear hin hin'
   generalize secs[i]=s at d0 d1 d2 d0' d1' d2' hI hI'
   obtain⟨nm,rows,qu⟩:=s
   dsimp only at d0 d1 d2 d0' d1' d2' hI hI'
   go_wp2_with fail
   go_cut [6,7] from 36 to 72 (fun v6 v7 W=> ∃gx gy,v6=.pointer (some ⟨gx,0,none⟩)∧v7=.pointer (some ⟨gy,0,none⟩)∧Below wr.heap.size wr W∧Cells W gx [.string nm,.slice A rows.length c,.int .i64 qu]∧Cells W gy [.string nm,.slice A' rows.length c',.int .i64 qu])
   case first=>as_aux_lemma=>
    go_big_region
    all_goals(go_wp2_with fail;go_meet)
    all_goals first
     |exact⟨_,_,rfl,rfl,bdd (bal (ba _ _)),(Cells.newR _ _ _ _ (by simp)).drew,((Cells.newR _ _ _ _ rfl).alloc _).drew⟩
     |exact⟨_,_,rfl,rfl,bdd (bal (ba _ _)),((Cells.newR _ _ _ _ rfl).alloc _).drew,(Cells.newR _ _ _ _ (by simp)).drew⟩
   case rest=>
    obtain⟨gx,gy,rfl,rfl,hb2,kx,ky⟩:=hcut
    have a0:=kx.c 0 _ rfl
    have a1:=kx.c 1 _ rfl
    have a2:=kx.c 2 _ rfl
    have b0:=ky.c 0 _ rfl
    have b1:=ky.c 1 _ rfl
    have b2:=ky.c 2 _ rfl
    have z0:=kx.lt
    have z1:=ky.lt
    have D2:=Lib.hid (D.out.trans (hb2.mono D.out.size))
    have CI:=Lib.hid (ints_any (hI.out.up hb2) (hI'.out.up hb2))
    rw[show decide (rows=rows)=true by simp] at CI
    clear kx ky hb2 d0 d1 d2 d0' d1' d2' c3 e3 y0 y1
    go_wp2_with fail
    refine CI.out.mono ?_
    rintro e w3 ⟨rfl,hb3⟩
    have D3:=Lib.hid (D2.out.trans (hb3.mono D2.out.size))
    clear hb3 CI a0 a1 a2 b0 b1 b2 z0 z1
    go_wp2_with fail
    go_roundw
    case rel=>exact⟨i+1,by omega,by go_num,D3⟩
    case measure=>simp[intOf];omega
  ·obtain rfl:i=secs.length:=by omega
   go_wp2_with fail
   go_ret
   exact⟨rfl,D'.out⟩
theorem Cells.sl {α:Type} {R:Rep α} {W:World} {g n:Nat} {cells:List Value} {xs:List α} (h:Cells W g cells) (hm:R.many W cells xs) (hn:n=xs.length) (hs:n≤1000000):Sl R W (.slice (some ⟨g,0,none⟩) n n) xs:=by
 subst hn
 refine⟨_,_,rfl,Nat.le_refl _,by omega,.inr ⟨g,0,rfl,h.lt,fun i x hi=> ?_⟩⟩
 obtain⟨cs,h1,h2⟩:=R.many_at hm hi
 exact⟨cs,h1,fun j u hu=>by rw[Nat.zero_add];exact h.c _ u (h2 j u hu)⟩
theorem Cells.new' (w:World) (cs:List Value) (t:TypeId) (g:Nat) (hg:g=w.heap.size):Cells (w.alloc (.cells cs.toArray t)) g cs:=hg▸Cells.new w cs t
def VePost (w:World) (x:Ve) (e:Ending) (w':World):Prop:=∃V vc,e=.returned (.agg #[.int .i64 x.shards,.int .i64 x.ttl,.int .i64 x.session,.slice V x.secs.length vc])∧Sl secR w' (.slice V x.secs.length vc) x.secs∧Below w.heap.size w w'
end Go.Proofs.YtlckmjiioohcmaaGreatDoor
namespace Go.Proofs.YtlckmjiioohcmaaGreatDoor
open Go.RowKit
def lmV:Ve:=⟨1,10,100,[⟨⟨#[115]⟩,[2],1⟩]⟩
def lmT:Tk:=⟨0,1,1,0⟩
def lmOps:List MOp:=[⟨2,1,1000,0,0,0,0,noTk,0⟩,⟨2,2,1000,0,0,0,0,noTk,0⟩,⟨5,1,1000,0,0,0,0,noTk,0⟩,⟨10,2,1000,0,0,0,0,noTk,0⟩,⟨10,2,1000,0,0,0,0,noTk,0⟩,⟨7,1,1000,0,0,0,0,lmT,0⟩,⟨9,0,0,0,0,0,0,lmT,0⟩,
 ⟨12,0,0,0,0,0,0,noTk,9⟩,⟨12,0,0,0,0,0,0,noTk,10⟩,⟨12,0,0,0,0,0,0,noTk,9⟩,⟨3,1,1000,0,0,2,0,noTk,0⟩,⟨4,2,1000,0,0,0,0,noTk,0⟩,⟨8,2,1000,0,0,0,0,noTk,0⟩]
def lmRps:List MRp:=[⟨0,0,0,10,noTk,0⟩,⟨15,0,0,0,noTk,0⟩,⟨0,0,0,0,lmT,0⟩,⟨0,0,0,0,noTk,1⟩,⟨5,0,0,0,noTk,0⟩,noRp,⟨15,0,0,0,noTk,0⟩,noRp,noRp,⟨18,0,0,0,noTk,0⟩,⟨0,0,2,20,noTk,0⟩,⟨14,0,0,0,noTk,0⟩,⟨14,0,0,0,noTk,0⟩]
set_option maxHeartbeats 2000000 in
theorem lmV_any (w:World):Calls Tryz.prog 27 #[] w (VePost w lmV):=by
 go_enter Tryz.func27,Tryz.ntmps27
 go_wp2_with fail
 refine at_world (fun W=>Below w.heap.size w W∧Cells W w.heap.size [.int .i64 1,.int .i64 10,.int .i64 100,.slice (some ⟨w.heap.size+1+1,0,none⟩) 1 1]∧Cells W (w.heap.size+1) [.int .i64 2]∧Cells W (w.heap.size+1+1) [.string ⟨#[115]⟩,.slice (some ⟨w.heap.size+1,0,none⟩) 1 1,.int .i64 1])
  ⟨bal (bal (ba _ _)),((Cells.new' _ _ _ _ rfl).alloc _).alloc _,(Cells.new' _ _ _ _ (by simp)).alloc _,Cells.new' _ _ _ _ (by simp)⟩ fun W ⟨hb,k0,k1,k2⟩=> ?_
 have g0:=k0.c 0 _ rfl
 have g1:=k0.c 1 _ rfl
 have g2:=k0.c 2 _ rfl
 have g3:=k0.c 3 _ rfl
 have hs1:Sl intR W (.slice (some ⟨w.heap.size+1,0,none⟩) 1 1) [2]:=k1.sl (many_ints (xs:=[2]) (by simp[Bd])) rfl (by omega)
 have hs3:Sl secR W (.slice (some ⟨w.heap.size+1+1,0,none⟩) 1 1) lmV.secs:=k2.sl (R:=secR) ⟨[.string ⟨#[115]⟩,.slice (some ⟨w.heap.size+1,0,none⟩) 1 1,.int .i64 1],_,rfl,⟨_,_,rfl,hs1,by simp[Bd],by decide⟩,rfl⟩ rfl (by omega)
 refine bodyPost_ret (v:=.agg #[.int .i64 1,.int .i64 10,.int .i64 100,.slice (some ⟨w.heap.size+1+1,0,none⟩) 1 1]) (by simp[results,Tryz.results27,go_sem,g0,g1,g2,g3]) rfl ⟨_,_,rfl,hs3,hb⟩
def LmPost (w:World) (e:Ending) (w':World):Prop:=∃A B,e=.returned (.tuple #[.slice A 13 13,.slice B 13 13])∧Sl opR w' (.slice A 13 13) lmOps∧Sl rpR w' (.slice B 13 13) lmRps∧Below w.heap.size w w'
theorem lmOps_ok:∀op,op∈lmOps→OpOk op:=by
 have h:∀(x:Int),Decidable (Bd x):=fun x=>by unfold Bd;infer_instance
 intro op hop
 simp only[lmOps,List.mem_cons,List.not_mem_nil,or_false] at hop
 rcases hop with rfl|rfl|rfl|rfl|rfl|rfl|rfl|rfl|rfl|rfl|rfl|rfl|rfl<;>simp[OpOk,Bd,U32,TkOk,U64,noTk,lmT]
theorem many_ops {w:World}:∀{l:List MOp},(∀p,p∈l→OpOk p)→opR.many w (l.flatMap opCells) l
 |[],_=>rfl
 |p::l,h=>⟨opCells p,l.flatMap opCells,rfl,⟨rfl,h p (by simp)⟩,many_ops fun q hq=>h q (by simp[hq])⟩
theorem many_rps {w:World}:∀(l:List MRp),rpR.many w (l.flatMap rpCells) l
 |[]=>rfl
 |p::l=>⟨rpCells p,l.flatMap rpCells,rfl,rfl,many_rps l⟩
set_option maxRecDepth 20000 in
set_option maxHeartbeats 4000000 in
theorem lmEx_any (w:World):Calls Tryz.prog 26 #[] w (LmPost w):=by
 go_enter Tryz.func26,Tryz.ntmps26
 go_upto_region 2 with fail
 obtain⟨q,hq⟩:∃q,w.heap.size=q:=⟨_,rfl⟩
 rw[hq]
 refine at_world (fun X=>Below w.heap.size w X∧BoxN X q 44 (tkCells lmT).toArray) ⟨ba _ _,hq▸BoxN.new _ _ _⟩ fun w0 hw0=> ?_
 have B0:=Lib.hid hw0.1
 have K0:=Lib.hid hw0.2
 clear hw0
 have c0:=K0.out.cell 0 _ rfl
 have c1:=K0.out.cell 1 _ rfl
 have c2:=K0.out.cell 2 _ rfl
 have c3:=K0.out.cell 3 _ rfl
 have z0:=K0.out.lt
 go_upto_region 3 with fail
 clear c0 c1 c2 c3 z0
 obtain⟨q1,hq1⟩:∃q1,w0.heap.size=q1:=⟨_,rfl⟩
 rw[hq1]
 refine at_world (fun X=>Below w.heap.size w X∧BoxN X q 44 (tkCells lmT).toArray∧Cells X q1 (lmOps.flatMap opCells)) ⟨bal B0.out,K0.out.alloc _,hq1▸Cells.new _ (lmOps.flatMap opCells) _⟩ fun w1 hw1=> ?_
 have B1:=Lib.hid hw1.1
 have K1:=Lib.hid hw1.2.1
 have X1:=Lib.hid hw1.2.2
 have e0:w1.cell? ⟨q,0,none⟩=some (.int .u32 0):=K1.out.cell 0 _ rfl
 have e1:w1.cell? ⟨q,1,none⟩=some (.int .u32 1):=K1.out.cell 1 _ rfl
 have e2:w1.cell? ⟨q,2,none⟩=some (.int .u64 1):=K1.out.cell 2 _ rfl
 have e3:w1.cell? ⟨q,3,none⟩=some (.int .u64 0):=K1.out.cell 3 _ rfl
 have z1:=K1.out.lt
 clear hw1 hq1 B0 K0
 refine wp_region_held (S:=fun X=>Below w1.heap.size w1 X) (by kernel_rfl) ?_
 have HS:Below w1.heap.size w1 w1.drew:=bdd (Below.refl _ _)
 refine wpAnyH_take (i:=0) (v:=.slice (some ⟨q1,0,none⟩) 13 13) rfl (by kernel_rfl) (by kernel_rfl) (by kernel_rfl) (fun _ _ _ h=>h) (.inl ⟨rfl,fun W hS=>by go_simp⟩) HS ?_
 refine wpAnyH_take (i:=3) (v:=.agg #[.int .u32 0,.int .u32 1,.int .u64 1,.int .u64 0]) rfl (by kernel_rfl) (by kernel_rfl) (by kernel_rfl) (fun _ _ _ h=>h) (.inl ⟨rfl,fun W hS=>by have c0:=cell_later hS e0;have c1:=cell_later hS e1;have c2:=cell_later hS e2;have c3:=cell_later hS e3;go_simp⟩) HS ?_
 refine wpAnyH_take (i:=1) (v:=.agg #[.int .i64 0,.int .i64 0,.int .i64 0,.int .i64 10,.int .u32 0,.int .u32 0,.int .u64 0,.int .u64 0,.int .i64 0]) rfl (by kernel_rfl) (by kernel_rfl) (by kernel_rfl) (fun _ _ _ h=>h) (.inl ⟨rfl,fun W hS=>by go_simp⟩) HS ?_
 refine wpAnyH_take (i:=2) (v:=.agg #[.int .i64 15,.int .i64 0,.int .i64 0,.int .i64 0,.int .u32 0,.int .u32 0,.int .u64 0,.int .u64 0,.int .i64 0]) rfl (by kernel_rfl) (by kernel_rfl) (by kernel_rfl) (fun _ _ _ h=>h) (.inl ⟨rfl,fun W hS=>by go_simp⟩) HS ?_
 refine wpAnyH_take (i:=4) (v:=.agg #[.int .i64 0,.int .i64 0,.int .i64 0,.int .i64 0,.int .u32 0,.int .u32 1,.int .u64 1,.int .u64 0,.int .i64 0]) rfl (by kernel_rfl) (by kernel_rfl) (by kernel_rfl) (fun _ _ _ h=>h) (.inl ⟨rfl,fun W hS=>by go_simp⟩) HS ?_
 refine wpAnyH_take (i:=5) (v:=.agg #[.int .i64 0,.int .i64 0,.int .i64 0,.int .i64 0,.int .u32 0,.int .u32 0,.int .u64 0,.int .u64 0,.int .i64 1]) rfl (by kernel_rfl) (by kernel_rfl) (by kernel_rfl) (fun _ _ _ h=>h) (.inl ⟨rfl,fun W hS=>by go_simp⟩) HS ?_
 refine wpAnyH_take (i:=6) (v:=.agg #[.int .i64 5,.int .i64 0,.int .i64 0,.int .i64 0,.int .u32 0,.int .u32 0,.int .u64 0,.int .u64 0,.int .i64 0]) rfl (by kernel_rfl) (by kernel_rfl) (by kernel_rfl) (fun _ _ _ h=>h) (.inl ⟨rfl,fun W hS=>by go_simp⟩) HS ?_
 refine wpAnyH_take (i:=7) (v:=.agg #[.int .i64 0,.int .i64 0,.int .i64 0,.int .i64 0,.int .u32 0,.int .u32 0,.int .u64 0,.int .u64 0,.int .i64 0]) rfl (by kernel_rfl) (by kernel_rfl) (by kernel_rfl) (fun _ _ _ h=>h) (.inl ⟨rfl,fun W hS=>by go_simp⟩) HS ?_
 refine wpAnyH_take (i:=8) (v:=.agg #[.int .i64 15,.int .i64 0,.int .i64 0,.int .i64 0,.int .u32 0,.int .u32 0,.int .u64 0,.int .u64 0,.int .i64 0]) rfl (by kernel_rfl) (by kernel_rfl) (by kernel_rfl) (fun _ _ _ h=>h) (.inl ⟨rfl,fun W hS=>by go_simp⟩) HS ?_
 refine wpAnyH_take (i:=9) (v:=.agg #[.int .i64 0,.int .i64 0,.int .i64 0,.int .i64 0,.int .u32 0,.int .u32 0,.int .u64 0,.int .u64 0,.int .i64 0]) rfl (by kernel_rfl) (by kernel_rfl) (by kernel_rfl) (fun _ _ _ h=>h) (.inl ⟨rfl,fun W hS=>by go_simp⟩) HS ?_
 refine wpAnyH_take (i:=10) (v:=.agg #[.int .i64 0,.int .i64 0,.int .i64 0,.int .i64 0,.int .u32 0,.int .u32 0,.int .u64 0,.int .u64 0,.int .i64 0]) rfl (by kernel_rfl) (by kernel_rfl) (by kernel_rfl) (fun _ _ _ h=>h) (.inl ⟨rfl,fun W hS=>by go_simp⟩) HS ?_
 refine wpAnyH_take (i:=11) (v:=.agg #[.int .i64 18,.int .i64 0,.int .i64 0,.int .i64 0,.int .u32 0,.int .u32 0,.int .u64 0,.int .u64 0,.int .i64 0]) rfl (by kernel_rfl) (by kernel_rfl) (by kernel_rfl) (fun _ _ _ h=>h) (.inl ⟨rfl,fun W hS=>by go_simp⟩) HS ?_
 refine wpAnyH_take (i:=12) (v:=.agg #[.int .i64 0,.int .i64 0,.int .i64 2,.int .i64 20,.int .u32 0,.int .u32 0,.int .u64 0,.int .u64 0,.int .i64 0]) rfl (by kernel_rfl) (by kernel_rfl) (by kernel_rfl) (fun _ _ _ h=>h) (.inl ⟨rfl,fun W hS=>by go_simp⟩) HS ?_
 refine wpAnyH_take (i:=13) (v:=.agg #[.int .i64 14,.int .i64 0,.int .i64 0,.int .i64 0,.int .u32 0,.int .u32 0,.int .u64 0,.int .u64 0,.int .i64 0]) rfl (by kernel_rfl) (by kernel_rfl) (by kernel_rfl) (fun _ _ _ h=>h) (.inl ⟨rfl,fun W hS=>by go_simp⟩) HS ?_
 refine wpAnyH_take (i:=14) (v:=.agg #[.int .i64 14,.int .i64 0,.int .i64 0,.int .i64 0,.int .u32 0,.int .u32 0,.int .u64 0,.int .u64 0,.int .i64 0]) rfl (by kernel_rfl) (by kernel_rfl) (by kernel_rfl) (fun _ _ _ h=>h) (.inl ⟨rfl,fun W hS=>by go_simp⟩) HS ?_
 refine wpAnyH_take (i:=16) (v:=.slice (some ⟨q1,0,none⟩) 13 13) rfl (by kernel_rfl) (by kernel_rfl) (by kernel_rfl) (fun _ _ _ h=>h) (.inl ⟨rfl,fun W hS=>by go_simp⟩) HS ?_
 refine wpAnyH_all (rs:=[15]) (by kernel_rfl) (by simp) fun j hj=> ?_
 obtain rfl:j=15:=by simpa using hj
 clear hj
 refine heldOp rfl fun K hK=> ?_
 go_wp2_with fail
 refine at_world (fun X=>Below w1.heap.size w1 X∧Cells X w1.heap.size (lmRps.flatMap rpCells)) ⟨bal HS,(Cells.new _ (lmRps.flatMap rpCells) _).drew⟩ fun w2 hw2=> ?_
 refine hK.out _ _ ⟨hw2.1, ?_⟩
 clear hK K
 refine wpAnyH_all (rs:=[17]) (by kernel_rfl) (by simp) fun j hj=> ?_
 obtain rfl:j=17:=by simpa using hj
 clear hj
 refine heldOp rfl fun K hK=> ?_
 go_wp2_with fail
 refine hK.out _ _ ⟨hw2.1, ?_⟩
 clear hK K
 refine wpAnyH_done (by kernel_rfl) ?_ _
 go_wp2_with fail
 go_ret2
 exact⟨_,_,rfl,((X1.out.later hw2.1).sl (many_ops lmOps_ok) rfl (by omega)),(hw2.2.sl (many_rps lmRps) rfl (by omega)),B1.out.trans (hw2.1.mono B1.out.size)⟩
end Go.Proofs.YtlckmjiioohcmaaGreatDoor
namespace Go.Proofs.YtlckmjiioohcmaaGreatDoor
open Go.RowKit
theorem Sl.atRp {w:World} {A:Option Addr} {n c k:Nat} {xs:List MRp} (h:Sl rpR w (.slice A n c) xs) (hk:k<xs.length):
 ∃b off,A=some ⟨b,off,.none⟩∧b<w.heap.size∧w.cell? ⟨b,off+k*9,.none⟩=some (.int .i64 xs[k].err)∧w.cell? ⟨b,off+k*9+1,.none⟩=some (.int .i64 xs[k].seat)∧w.cell? ⟨b,off+k*9+2,.none⟩=some (.int .i64 xs[k].n)∧
  w.cell? ⟨b,off+k*9+3,.none⟩=some (.int .i64 xs[k].deadline)∧w.cell? ⟨b,off+k*9+4,.none⟩=some (.int .u32 xs[k].tk.seat)∧w.cell? ⟨b,off+k*9+5,.none⟩=some (.int .u32 xs[k].tk.owner)∧
  w.cell? ⟨b,off+k*9+6,.none⟩=some (.int .u64 xs[k].tk.serial)∧w.cell? ⟨b,off+k*9+7,.none⟩=some (.int .u64 xs[k].tk.epoch)∧w.cell? ⟨b,off+k*9+8,.none⟩=some (.int .i64 xs[k].place):=by
 obtain⟨b,off,cs,rfl,hb,rfl,h2⟩:=h.at_ hk
 exact⟨b,off,rfl,hb,h2 0 _ rfl,h2 1 _ rfl,h2 2 _ rfl,h2 3 _ rfl,h2 4 _ rfl,h2 5 _ rfl,h2 6 _ rfl,h2 7 _ rfl,h2 8 _ rfl⟩
set_option maxHeartbeats 2000000 in
theorem sameRp_any {w:World} {A B:Option Addr} {ca cb:Nat} {xs:List MRp} (ha:Sl rpR w (.slice A xs.length ca) xs) (hb:Sl rpR w (.slice B xs.length cb) xs):
 Calls Tryz.prog 14 #[.slice A xs.length ca,.slice B xs.length cb] w fun e w'=>e=.returned (.bool true)∧Below w.heap.size w w':=by
 have hca:=ha.cap
 have HA:=Lib.hid ha
 have HB:=Lib.hid hb
 clear ha hb
 go_enter Tryz.func14,Tryz.ntmps14
 go_wp2_with fail
 go_loopw [5] (fun i wr=> ∃k:Nat,k≤xs.length∧i=.int .i64 (k:Int)∧Hid (Below w.heap.size w wr)) (fun i _=>xs.length-(intOf i).toNat)
 case atStart=>exact⟨0,by omega,rfl,Lib.hid (Below.refl _ _)⟩
 case round=>
  obtain⟨k,hk,rfl,hW⟩:=hrel
  by_cases hlt:k<xs.length
  ·obtain⟨b,off,rfl,hbl,a0,a1,a2,a3,a4,a5,a6,a7,a8⟩:=(HA.out.up hW.out).atRp hlt
   obtain⟨b',off',rfl,hbl',c0,c1,c2,c3,c4,c5,c6,c7,c8⟩:=(HB.out.up hW.out).atRp hlt
   generalize xs[k]=x at*
   have t0:decide ((k:Int)<(xs.length:Int))=true:=by simp;omega
   have hk0:(0:Int)≤(k:Int):=by omega
   have hk1:(k:Int)<(xs.length:Int):=by omega
   go_upto_region 4 with fail
   go_quiet (fail)
   go_wp2_with fail
   exact⟨⟨k+1,by omega,by go_num,Lib.hid (bdN hW.out _)⟩,by simp[intOf];omega⟩
  ·obtain rfl:k=xs.length:=by omega
   have t0:decide ((xs.length:Int)<(xs.length:Int))=false:=by simp
   go_wp2_with fail
   go_ret
   exact⟨rfl,hW.out⟩
set_option maxHeartbeats 4000000 in
set_option maxRecDepth 20000 in
theorem sameMd_any {W:World} {F G:MFrm} {s:Md} (h:IsMd W F s) (h':IsMd W G s):
 Calls Tryz.prog 11 #[mdV F s,mdV G s] W fun e w'=>e=.returned (.bool true)∧Below W.heap.size W w':=by
 have HF:=Lib.hid h
 have HG:=Lib.hid h'
 have hcs:=h.seats.cap
 have hcq:=h.qs.cap
 clear h h'
 obtain⟨V,vc,A,ac,Q,qc⟩:=F
 obtain⟨V',vc',A',ac',Q',qc'⟩:=G
 have CV:=Lib.hid (fun w (hb:Below W.heap.size W w)=>sameVe_any (x:=s.ve) (HF.out.up hb).secs (HG.out.up hb).secs)
 unfold mdV
 simp only at CV hcs hcq⊢
 go_enter Tryz.func11,Tryz.ntmps11
 go_upto_region 1 with fail
 obtain⟨q,hq⟩:∃q,W.heap.size=q:=⟨_,rfl⟩
 rw[hq]
 refine at_world (fun X=>Below W.heap.size W X∧BoxN X q 31 (mdCells ⟨V,vc,A,ac,Q,qc⟩ s).toArray∧BoxN X (q+1) 31 (mdCells ⟨V',vc',A',ac',Q',qc'⟩ s).toArray) (two_boxes hq _ _ _ _) fun w0 hw0=> ?_
 have B0:=Lib.hid hw0.1
 have K0:=Lib.hid hw0.2.1
 have K1:=Lib.hid hw0.2.2
 clear hw0 hq
 have a0:=K0.out.cell 0 (.int .i64 s.ve.shards) rfl
 have a1:=K0.out.cell 1 (.int .i64 s.ve.ttl) rfl
 have a2:=K0.out.cell 2 (.int .i64 s.ve.session) rfl
 have a3:=K0.out.cell 3 (.slice V s.ve.secs.length vc) rfl
 have b0:=K1.out.cell 0 (.int .i64 s.ve.shards) rfl
 have b1:=K1.out.cell 1 (.int .i64 s.ve.ttl) rfl
 have b2:=K1.out.cell 2 (.int .i64 s.ve.session) rfl
 have b3:=K1.out.cell 3 (.slice V' s.ve.secs.length vc') rfl
 have z0:=K0.out.lt
 have z1:=K1.out.lt
 go_wp2_with fail
 refine(CV.out _ B0.out).mono ?_
 rintro e w1 ⟨rfl,hb⟩
 have B1:=Lib.hid (B0.out.trans (hb.mono B0.out.size))
 have P0:=Lib.hid (K0.out.later hb)
 have P1:=Lib.hid (K1.out.later hb)
 clear hb a0 a1 a2 a3 b0 b1 b2 b3 z0 z1 B0 K0 K1 CV
 have a4:=P0.out.cell 4 (.int .i64 s.now) rfl
 have a5:=P0.out.cell 5 (.slice A s.seats.length ac) rfl
 have a6:=P0.out.cell 6 (.slice Q s.qs.length qc) rfl
 have b4:=P1.out.cell 4 (.int .i64 s.now) rfl
 have b5:=P1.out.cell 5 (.slice A' s.seats.length ac') rfl
 have b6:=P1.out.cell 6 (.slice Q' s.qs.length qc') rfl
 have z0:=P0.out.lt
 have z1:=P1.out.lt
 go_upto_region 4 with fail
 clear a4 a5 a6 b4 b5 b6 z0 z1
 go_loopw [5] (fun i wr=> ∃k:Nat,k≤s.seats.length∧i=.int .i64 (k:Int)∧Hid (Below w1.heap.size w1 wr)) (fun i _=>s.seats.length-(intOf i).toNat)
 case atStart=>exact⟨0,by omega,rfl,Lib.hid (Below.refl _ _)⟩
 case round=>
  obtain⟨k,hk,rfl,hW⟩:=hrel
  have R0:=P0.out.later hW.out
  have R1:=P1.out.later hW.out
  have a5:=R0.cell 5 (.slice A s.seats.length ac) rfl
  have b5:=R1.cell 5 (.slice A' s.seats.length ac') rfl
  have z0:=R0.lt
  have z1:=R1.lt
  clear R0 R1
  by_cases hlt:k<s.seats.length
  ·obtain⟨b,off,rfl,hbl,c0,c1,c2,c3,c4,_⟩:=(HF.out.seats.up (B1.out.trans (hW.out.mono B1.out.size))).atX hlt
   obtain⟨b',off',rfl,hbl',d0,d1,d2,d3,d4,_⟩:=(HG.out.seats.up (B1.out.trans (hW.out.mono B1.out.size))).atX hlt
   generalize s.seats[k]=x at*
   have t0:decide ((k:Int)<(s.seats.length:Int))=true:=by simp;omega
   have hk0:(0:Int)≤(k:Int):=by omega
   have hk1:(k:Int)<(s.seats.length:Int):=by omega
   go_upto_region 6 with fail
   go_quiet (fail)
   go_wp2_with fail
   exact⟨⟨k+1,by omega,by go_num,Lib.hid (bdN hW.out _)⟩,by simp[intOf];omega⟩
  ·obtain rfl:k=s.seats.length:=by omega
   have t0:decide ((s.seats.length:Int)<(s.seats.length:Int))=false:=by simp
   have B2:=Lib.hid (B1.out.trans (hW.out.mono B1.out.size))
   have Q0:=Lib.hid (P0.out.later hW.out)
   have Q1:=Lib.hid (P1.out.later hW.out)
   go_upto_region 9 with fail
   clear a5 b5 z0 z1 t0 hk
   rename World=>wq
   go_loopw [6] (fun i wx=> ∃k:Nat,k≤s.qs.length∧i=.int .i64 (k:Int)∧Hid (Below wq.heap.size wq wx)) (fun i _=>s.qs.length-(intOf i).toNat)
   case atStart=>exact⟨0,by omega,rfl,Lib.hid (Below.refl _ _)⟩
   case round=>
    obtain⟨k,hk,rfl,hX⟩:=hrel
    rename World=>wx
    have R0:=Q0.out.later hX.out
    have R1:=Q1.out.later hX.out
    have a6:=R0.cell 6 (.slice Q s.qs.length qc) rfl
    have b6:=R1.cell 6 (.slice Q' s.qs.length qc') rfl
    have z0:=R0.lt
    have z1:=R1.lt
    by_cases hlt:k<s.qs.length
    ·have BX:=B2.out.trans (hX.out.mono B2.out.size)
     obtain⟨b,off,A1,c1,rfl,hbl,d0,hl1⟩:=(HF.out.qs.up BX).atQ hlt
     obtain⟨b',off',A2,c2,rfl,hbl',e0,hl2⟩:=(HG.out.qs.up BX).atQ hlt
     generalize s.qs[k]=l at*
     have H1:=Lib.hid hl1
     have H2:=Lib.hid hl2
     have hcl:=hl1.cap
     have T0:=Lib.hid R0
     have T1:=Lib.hid R1
     clear hl1 hl2 BX R0 R1
     have t0:decide ((k:Int)<(s.qs.length:Int))=true:=by simp;omega
     have hk0:(0:Int)≤(k:Int):=by omega
     have hk1:(k:Int)<(s.qs.length:Int):=by omega
     go_upto_region 11 with fail
     go_quiet (fail)
     go_upto_region 14 with fail
     refine at_world (fun X=>Below wx.heap.size wx X) (bdN (Below.refl _ _) _) fun wy hy=> ?_
     have d0':=cell_later hy d0
     have e0':=cell_later hy e0
     have hbl1:b<wy.heap.size:=Nat.lt_of_lt_of_le hbl hy.size
     have hbl2:b'<wy.heap.size:=Nat.lt_of_lt_of_le hbl' hy.size
     have U0:=Lib.hid (T0.out.later hy)
     have U1:=Lib.hid (T1.out.later hy)
     have HY:=Lib.hid (hX.out.trans (hy.mono hX.out.size))
     have H1':=Lib.hid (H1.out.up hy)
     have H2':=Lib.hid (H2.out.up hy)
     clear hy a6 b6 z0 z1 d0 e0 hbl hbl' T0 T1 H1 H2
     go_loopw [7] (fun i wz=> ∃j:Nat,j≤l.length∧i=.int .i64 (j:Int)∧Hid (Below wy.heap.size wy wz)) (fun i _=>l.length-(intOf i).toNat)
     case atStart=>exact⟨0,by omega,rfl,Lib.hid (Below.refl _ _)⟩
     case round=>
      obtain⟨j,hj,rfl,hZ⟩:=hrel
      have R0:=U0.out.later hZ.out
      have R1:=U1.out.later hZ.out
      have a6:=R0.cell 6 (.slice (some ⟨b,off,none⟩) s.qs.length qc) rfl
      have b6:=R1.cell 6 (.slice (some ⟨b',off',none⟩) s.qs.length qc') rfl
      have z0:=R0.lt
      have z1:=R1.lt
      have d0:=cell_later hZ.out d0'
      have e0:=cell_later hZ.out e0'
      have hbl3:b<wr.heap.size:=Nat.lt_of_lt_of_le hbl1 hZ.out.size
      have hbl4:b'<wr.heap.size:=Nat.lt_of_lt_of_le hbl2 hZ.out.size
      clear R0 R1
      by_cases hlt2:j<l.length
      ·obtain⟨f,fo,rfl,hfl,f0,_⟩:=(H1'.out.up hZ.out).atU hlt2
       obtain⟨g,go,rfl,hgl,g0,_⟩:=(H2'.out.up hZ.out).atU hlt2
       generalize l[j]=y at*
       have t1:decide ((j:Int)<(l.length:Int))=true:=by simp;omega
       have hj0:(0:Int)≤(j:Int):=by omega
       have hj1:(j:Int)<(l.length:Int):=by omega
       go_upto_region 16 with fail
       go_quiet (fail)
       go_wp2_with fail
       exact⟨⟨j+1,by omega,by go_num,Lib.hid (bdN hZ.out _)⟩,by simp[intOf];omega⟩
      ·obtain rfl:j=l.length:=by omega
       have t1:decide ((l.length:Int)<(l.length:Int))=false:=by simp
       go_wp2_with fail
       exact⟨⟨k+1,by omega,by go_num,Lib.hid (HY.out.trans (hZ.out.mono HY.out.size))⟩,by simp[intOf];omega⟩
    ·obtain rfl:k=s.qs.length:=by omega
     have t0:decide ((s.qs.length:Int)<(s.qs.length:Int))=false:=by simp
     go_wp2_with fail
     go_ret
     exact⟨rfl,B2.out.trans (hX.out.mono B2.out.size)⟩
end Go.Proofs.YtlckmjiioohcmaaGreatDoor
namespace Go.Proofs.YtlckmjiioohcmaaGreatDoor
open Go.RowKit
def lmS:Md:=⟨lmV,0,[zeroSx,zeroSx],[[]]⟩
theorem lm_new:newM lmV=(lmS,0):=by decide+kernel
def lmHalf:Md:=(runTo lmS (lmOps.take 7)).1
def lmEnd:Md:=(runTo lmS lmOps).1
theorem lm_half:(playM lmS (lmOps.take 7)).1=lmHalf∧(playM lmS (lmOps.take 7)).2.2=0∧lmHalf.seats.length=2∧lmHalf.seats.getD 0 zeroSx=⟨1,2,10,1,0⟩:=by decide+kernel
theorem lm_all:playM lmS lmOps=(lmEnd,lmRps,0):=by decide+kernel
set_option maxRecDepth 20000 in
set_option maxHeartbeats 4000000 in
theorem shown_any (w:World) (hu:UsesAt w):Calls Tryz.prog 8 #[] w fun e w'=>e=.returned (.bool true)∧Below w.heap.size w w':=by
 have HU:=Lib.hid hu
 clear hu
 go_enter Tryz.func8,Tryz.ntmps8
 go_wp2_with fail
 refine(lmEx_any _).mono ?_
 rintro e w1 ⟨A,B,rfl,hA,hB,hb⟩
 have B1:=Lib.hid hb
 have HA1:=Lib.hid hA
 have HB1:=Lib.hid hB
 clear hA hB hb
 go_wp2_with fail
 refine(lmV_any _).mono ?_
 rintro e w2 ⟨V,vc,rfl,hV,hb⟩
 have B2:=Lib.hid (B1.out.trans (hb.mono B1.out.size))
 have HA2:=Lib.hid (HA1.out.up hb)
 have HB2:=Lib.hid (HB1.out.up hb)
 have CN:=Lib.hid (new_any (x:=lmV) hV (by simp[lmV,Bd]) (by simp[lmV,Bd]) (by simp[lmV,Bd]))
 clear hV hb B1 HA1 HB1
 generalize hx:lmV=x at CN⊢
 have HX:=Lib.hid hx
 clear hx
 go_wp2_with fail
 refine CN.out.mono ?_
 rintro e w3 ⟨F,rfl,hb,hI⟩
 rw[←HX.out,lm_new] at hI⊢
 have B3:=Lib.hid (B2.out.trans (hb.mono B2.out.size))
 have HA3:=Lib.hid (HA2.out.up hb)
 have HB3:=Lib.hid (HB2.out.up hb)
 have HI3:=Lib.hid hI
 clear hI hb B2 HA2 HB2 CN HX
 have S7:=md_s (ms:=mdCells F lmS) rfl
 have S7A:=md_S (ms:=mdCells F lmS) rfl
 have O7:=md_o (ms:=mdCells F lmS) rfl
 have L7:=Lib.hid (show(mdCells F lmS).toArray.size=7 by rfl)
 have MV:=Lib.hid (show mdV F lmS=.agg (mdCells F lmS).toArray from rfl)
 simp only
 rw[MV.out]
 obtain⟨ms,hms⟩:∃ms:List Value,ms=mdCells F lmS:=⟨_,rfl⟩
 rw[←hms]
 rw[←hms] at S7 S7A O7 L7 MV
 have HMS:=Lib.hid hms
 clear hms
 go_upto_region 3 with(refine wpList_store_row rfl 31 (.tmp 3) (.tmp 18) rfl w3.heap.size ms.toArray rfl rfl 31 _ (BoxN.new _ _ _) S7A.out L7.out.symm O7.out ?_)
 obtain⟨q,hq⟩:∃q,w3.heap.size=q:=⟨_,rfl⟩
 rw[hq]
 have hbn:BoxN (w3.alloc (.cells #[.int .i64 0,.int .i64 0,.int .i64 0,.slice none 0 0,.int .i64 0,.slice none 0 0,.slice none 0 0] 31)) q 31 #[.int .i64 0,.int .i64 0,.int .i64 0,.slice none 0 0,.int .i64 0,.slice none 0 0,.slice none 0 0]:=hq▸BoxN.new w3 31 #[.int .i64 0,.int .i64 0,.int .i64 0,.slice none 0 0,.int .i64 0,.slice none 0 0,.slice none 0 0]
 have hrow:=grownBy_setRow hbn ms.toArray
 refine at_world (fun X=>Below w3.heap.size w3 X∧BoxN X q 31 ms.toArray) ⟨(ba w3 (.cells #[.int .i64 0,.int .i64 0,.int .i64 0,.slice none 0 0,.int .i64 0,.slice none 0 0,.slice none 0 0] 31)).grown hrow.1 (by simp) (fun k hk=>by injection hk with hk;omega),hrow.2⟩ fun w4 hw4=> ?_
 have D4:=Lib.hid hw4.1
 have K4:=Lib.hid hw4.2
 have B4:=Lib.hid (B3.out.trans (hw4.1.mono B3.out.size))
 have HA4:=Lib.hid (HA3.out.up hw4.1)
 have HB4:=Lib.hid (HB3.out.up hw4.1)
 have HK4:=Lib.hid (MdKeep.first HI3.out hw4.1)
 have hqle:w3.heap.size≤q:=by omega
 clear hbn hrow hw4 HA3 HB3 HI3
 have C1:=Lib.hid (fun W (hb:Below w4.heap.size w4 W)=>play_any w3.heap.size F lmS A 13 (lmOps.take 7) W (HK4.out.up (Loose.of hb)) (Nat.le_trans D4.out.size hb.size) (by decide) (sl_first (HA4.out.up hb) (j:=7) (by decide) (by decide)) (HU.out.up (B4.out.trans (hb.mono B4.out.size)) HU.out.1))
 rw[MV.out] at C1
 go_upto_region 5 with fail
 go_cut [5,6,7] from 22 to 29 (fun v5 v6 v7 W=> ∃b5 F' v,v5=.pointer (some ⟨b5,0,none⟩)∧v6=v∧v7=.int .i64 0∧Below w4.heap.size w4 W∧MdKeep w3.heap.size W F' lmHalf∧BoxN W b5 31 (mdCells F' lmHalf).toArray∧w4.heap.size≤b5)
 case first=>
  refine wp_region_held (S:=fun X=>Below w4.heap.size w4 X) (by kernel_rfl) ?_
  have HS0:Below w4.heap.size w4 w4.drew:=bdd (Below.refl _ _)
  refine wpAnyH_take (i:=0) rfl (by decide+kernel) (by decide+kernel) (by decide+kernel) (fun _ _ _ h=>h) (yieldsIf_load_mid rfl 31 (.tmp 3) rfl (q) (0) rfl (ms) _ (fun X hX=>(K4.out.later hX).range2) Tryz.underlying31 rfl (S7.out)) HS0 ?_
  refine wpAnyH_take (i:=1) (v:=.slice A 13 13) rfl (by decide+kernel) (by decide+kernel) (by decide+kernel) (fun _ _ _ h=>h) (.inl ⟨rfl,fun W hS=>by go_simp⟩) HS0 ?_
  refine wpAnyH_take (i:=2) (v:=.slice A 7 13) rfl (by decide+kernel) (by decide+kernel) (by decide+kernel) (fun _ _ _ h=>h) (.inl ⟨rfl,fun W hS=>by go_simp⟩) HS0 ?_
  refine wpAnyH_all (rs:=[3,8]) (by kernel_rfl) (by simp) fun j hj=> ?_
  simp only[List.mem_cons,List.not_mem_nil,or_false] at hj
  rcases hj with rfl|rfl
  ·refine heldOp rfl fun K hK=> ?_
   go_wp2_with fail
   refine(C1.out w4.drew HS0).mono ?_
   rintro e y ⟨F',v,rfl,hv,hb,hk⟩
   rw[lm_half.1,lm_half.2.1]
   rw[lm_half.1] at hk
   have HF:=Lib.hid (show MdKeep w3.heap.size y F' lmHalf from hk)
   clear hk hv
   have V9:=Lib.hid (show mdV F' lmHalf=.agg (mdCells F' lmHalf).toArray from rfl)
   rw[V9.out]
   obtain⟨hs,hhs⟩:∃hs:List Value,hs=mdCells F' lmHalf:=⟨_,rfl⟩
   rw[←hhs]
   have HHS:=Lib.hid hhs
   have S9A:=md_S hhs
   have L9:=md_l hhs
   have O9:=md_o hhs
   clear hhs V9
   go_wp2_with fail
   refine at_world (fun X=>(Below w4.heap.size w4 X)∧(MdKeep w3.heap.size X F' lmHalf)) ⟨HS0.trans (hb.mono HS0.size),HF.out⟩ fun x1 hx1=> ?_
   have S1:=Lib.hid (hx1.1)
   have KK1:=Lib.hid (hx1.2)
   clear hx1
   clear hb HF
   refine hK.out _ _ ⟨S1.out, ?_⟩
   clear hK K
   refine wpAnyH_take (i:=4) (v:=.tuple #[.agg hs.toArray,v,.int .i64 0]) rfl (by decide+kernel) (by decide+kernel) (by decide+kernel) (fun _ _ _ h=>h) (.inl ⟨rfl,fun W hS=>by go_simp⟩) S1.out ?_
   refine wpAnyH_take (i:=5) (v:=.agg hs.toArray) rfl (by decide+kernel) (by decide+kernel) (by decide+kernel) (fun _ _ _ h=>h) (.inl ⟨rfl,fun W hS=>by go_simp⟩) S1.out ?_
   refine wpAnyH_take (i:=6) (v:=v) rfl (by decide+kernel) (by decide+kernel) (by decide+kernel) (fun _ _ _ h=>h) (.inl ⟨rfl,fun W hS=>by go_simp⟩) S1.out ?_
   refine wpAnyH_take (i:=7) (v:=.int .i64 0) rfl (by decide+kernel) (by decide+kernel) (by decide+kernel) (fun _ _ _ h=>h) (.inl ⟨rfl,fun W hS=>by go_simp⟩) S1.out ?_
   refine wpAnyH_all (rs:=[8]) (by kernel_rfl) (by simp) fun j hj=> ?_
   obtain rfl:j=8:=by simpa using hj
   clear hj
   refine heldOp rfl fun K hK=> ?_
   go_wp2_with fail
   obtain⟨b5,hq5⟩:∃q,x1.heap.size=q:=⟨_,rfl⟩
   try rw[hq5]
   refine at_world (fun X=>(Below w4.heap.size w4 X)∧(MdKeep w3.heap.size X F' lmHalf)∧(BoxN X b5 31 #[.int .i64 0,.int .i64 0,.int .i64 0,.slice none 0 0,.int .i64 0,.slice none 0 0,.slice none 0 0]∧w4.heap.size≤b5)) ⟨S1.out.trans ((ba x1 (.cells #[.int .i64 0,.int .i64 0,.int .i64 0,.slice none 0 0,.int .i64 0,.slice none 0 0,.slice none 0 0] 31)).mono S1.out.size),KK1.out.up (Loose.of (ba x1 (.cells #[.int .i64 0,.int .i64 0,.int .i64 0,.slice none 0 0,.int .i64 0,.slice none 0 0,.slice none 0 0] 31))),⟨(by rw[←hq5];exact BoxN.new _ _ _),(by rw[←hq5];exact S1.out.size)⟩⟩ fun x2 hx2=> ?_
   have S2:=Lib.hid (hx2.1)
   have KK2:=Lib.hid (hx2.2.1)
   have B52:=Lib.hid (hx2.2.2)
   clear hx2
   clear hq5
   clear S1 KK1
   refine hK.out _ _ ⟨S2.out, ?_⟩
   clear hK K
   refine wpAnyH_all (rs:=[9]) (by kernel_rfl) (by simp) fun j hj=> ?_
   obtain rfl:j=9:=by simpa using hj
   clear hj
   refine heldOp rfl fun K hK=> ?_
   go_wp2_with (refine wpList_store_row rfl 31 (.tmp 5) (.tmp 27) rfl b5 hs.toArray rfl rfl 31 _ B52.out.1 S9A.out L9.out.symm O9.out ?_)
   have hrow:=grownBy_setRow B52.out.1 (hs.toArray)
   have htag:=Tag.of_box B52.out.1
   have hle:=B52.out.2
   refine at_world (fun X=>(Below w4.heap.size w4 X)∧(MdKeep w3.heap.size X F' lmHalf)∧(BoxN X b5 31 hs.toArray∧w4.heap.size≤b5)) ⟨S2.out.grown hrow.1 S2.out.size (fun k hk=>by injection hk with hk;omega),KK2.out.up (Loose.grown hrow.1 htag (by have:=D4.out.size;omega) (by decide) (by decide) (by decide)),⟨hrow.2,hle⟩⟩ fun x3 hx3=> ?_
   have S3:=Lib.hid (hx3.1)
   have KK3:=Lib.hid (hx3.2.1)
   have B53:=Lib.hid (hx3.2.2)
   clear hx3
   clear hrow htag hle
   clear S2 KK2 B52
   refine hK.out _ _ ⟨S3.out, ?_⟩
   clear hK K
   refine wpAnyH_take (i:=10) (v:=v) rfl (by decide+kernel) (by decide+kernel) (by decide+kernel) (fun _ _ _ h=>h) (.inl ⟨rfl,fun W hS=>by go_simp⟩) S3.out ?_
   refine wpAnyH_take (i:=11) (v:=.int .i64 0) rfl (by decide+kernel) (by decide+kernel) (by decide+kernel) (fun _ _ _ h=>h) (.inl ⟨rfl,fun W hS=>by go_simp⟩) S3.out ?_
   refine wpAnyH_done (by kernel_rfl) ?_ _
   go_wp2_with fail
   go_meet
   exact⟨_,F',v,rfl,rfl,rfl,S3.out,KK3.out,by rw[←HHS.out];exact B53.out⟩
  ·refine heldOp rfl fun K hK=> ?_
   go_wp2_with fail
   obtain⟨b5,hq5⟩:∃q,w4.heap.size=q:=⟨_,rfl⟩
   try rw[hq5]
   refine at_world (fun X=>(Below w4.heap.size w4 X)∧(BoxN X b5 31 #[.int .i64 0,.int .i64 0,.int .i64 0,.slice none 0 0,.int .i64 0,.slice none 0 0,.slice none 0 0]∧w4.heap.size≤b5)) ⟨HS0.trans ((ba w4.drew (.cells #[.int .i64 0,.int .i64 0,.int .i64 0,.slice none 0 0,.int .i64 0,.slice none 0 0,.slice none 0 0] 31)).mono HS0.size),⟨(by rw[←hq5];exact BoxN.new _ _ _),(by rw[←hq5];exact HS0.size)⟩⟩ fun x1 hx1=> ?_
   have S1:=Lib.hid (hx1.1)
   have B51:=Lib.hid (hx1.2)
   clear hx1
   clear hq5
   refine hK.out _ _ ⟨S1.out, ?_⟩
   clear hK K
   refine wpAnyH_all (rs:=[3]) (by kernel_rfl) (by simp) fun j hj=> ?_
   obtain rfl:j=3:=by simpa using hj
   clear hj
   refine heldOp rfl fun K hK=> ?_
   go_wp2_with fail
   refine(C1.out x1 S1.out).mono ?_
   rintro e y ⟨F',v,rfl,hv,hb,hk⟩
   rw[lm_half.1,lm_half.2.1]
   rw[lm_half.1] at hk
   have HF:=Lib.hid (show MdKeep w3.heap.size y F' lmHalf from hk)
   clear hk hv
   have V9:=Lib.hid (show mdV F' lmHalf=.agg (mdCells F' lmHalf).toArray from rfl)
   rw[V9.out]
   obtain⟨hs,hhs⟩:∃hs:List Value,hs=mdCells F' lmHalf:=⟨_,rfl⟩
   rw[←hhs]
   have HHS:=Lib.hid hhs
   have S9A:=md_S hhs
   have L9:=md_l hhs
   have O9:=md_o hhs
   clear hhs V9
   go_wp2_with fail
   refine at_world (fun X=>(Below w4.heap.size w4 X)∧(MdKeep w3.heap.size X F' lmHalf)∧(BoxN X b5 31 #[.int .i64 0,.int .i64 0,.int .i64 0,.slice none 0 0,.int .i64 0,.slice none 0 0,.slice none 0 0]∧w4.heap.size≤b5)) ⟨S1.out.trans (hb.mono S1.out.size),HF.out,⟨B51.out.1.later hb,B51.out.2⟩⟩ fun x2 hx2=> ?_
   have S2:=Lib.hid (hx2.1)
   have KK2:=Lib.hid (hx2.2.1)
   have B52:=Lib.hid (hx2.2.2)
   clear hx2
   clear hb HF
   clear S1 B51
   refine hK.out _ _ ⟨S2.out, ?_⟩
   clear hK K
   refine wpAnyH_take (i:=4) (v:=.tuple #[.agg hs.toArray,v,.int .i64 0]) rfl (by decide+kernel) (by decide+kernel) (by decide+kernel) (fun _ _ _ h=>h) (.inl ⟨rfl,fun W hS=>by go_simp⟩) S2.out ?_
   refine wpAnyH_take (i:=5) (v:=.agg hs.toArray) rfl (by decide+kernel) (by decide+kernel) (by decide+kernel) (fun _ _ _ h=>h) (.inl ⟨rfl,fun W hS=>by go_simp⟩) S2.out ?_
   refine wpAnyH_take (i:=6) (v:=v) rfl (by decide+kernel) (by decide+kernel) (by decide+kernel) (fun _ _ _ h=>h) (.inl ⟨rfl,fun W hS=>by go_simp⟩) S2.out ?_
   refine wpAnyH_take (i:=7) (v:=.int .i64 0) rfl (by decide+kernel) (by decide+kernel) (by decide+kernel) (fun _ _ _ h=>h) (.inl ⟨rfl,fun W hS=>by go_simp⟩) S2.out ?_
   refine wpAnyH_all (rs:=[9]) (by kernel_rfl) (by simp) fun j hj=> ?_
   obtain rfl:j=9:=by simpa using hj
   clear hj
   refine heldOp rfl fun K hK=> ?_
   go_wp2_with (refine wpList_store_row rfl 31 (.tmp 5) (.tmp 27) rfl b5 hs.toArray rfl rfl 31 _ B52.out.1 S9A.out L9.out.symm O9.out ?_)
   have hrow:=grownBy_setRow B52.out.1 (hs.toArray)
   have htag:=Tag.of_box B52.out.1
   have hle:=B52.out.2
   refine at_world (fun X=>(Below w4.heap.size w4 X)∧(MdKeep w3.heap.size X F' lmHalf)∧(BoxN X b5 31 hs.toArray∧w4.heap.size≤b5)) ⟨S2.out.grown hrow.1 S2.out.size (fun k hk=>by injection hk with hk;omega),KK2.out.up (Loose.grown hrow.1 htag (by have:=D4.out.size;omega) (by decide) (by decide) (by decide)),⟨hrow.2,hle⟩⟩ fun x3 hx3=> ?_
   have S3:=Lib.hid (hx3.1)
   have KK3:=Lib.hid (hx3.2.1)
   have B53:=Lib.hid (hx3.2.2)
   clear hx3
   clear hrow htag hle
   clear S2 KK2 B52
   refine hK.out _ _ ⟨S3.out, ?_⟩
   clear hK K
   refine wpAnyH_take (i:=10) (v:=v) rfl (by decide+kernel) (by decide+kernel) (by decide+kernel) (fun _ _ _ h=>h) (.inl ⟨rfl,fun W hS=>by go_simp⟩) S3.out ?_
   refine wpAnyH_take (i:=11) (v:=.int .i64 0) rfl (by decide+kernel) (by decide+kernel) (by decide+kernel) (fun _ _ _ h=>h) (.inl ⟨rfl,fun W hS=>by go_simp⟩) S3.out ?_
   refine wpAnyH_done (by kernel_rfl) ?_ _
   go_wp2_with fail
   go_meet
   exact⟨_,F',v,rfl,rfl,rfl,S3.out,KK3.out,by rw[←HHS.out];exact B53.out⟩
 case rest=>
  obtain⟨b5,F',v,rfl,rfl,rfl,hb,hk,hbx,hle⟩:=hcut
  have D5:=Lib.hid hb
  have B5:=Lib.hid (B4.out.trans (hb.mono B4.out.size))
  have HK5:=Lib.hid hk
  have HX5:=Lib.hid hbx
  have HA5:=Lib.hid (HA4.out.up hb)
  have HB5:=Lib.hid (HB4.out.up hb)
  have K5:=Lib.hid (K4.out.later hb)
  have C2:=Lib.hid (fun W (hb:Below wc.heap.size wc W)=>play_any w3.heap.size F lmS A 13 lmOps W ((HK4.out.up (Loose.of D5.out)).up (Loose.of hb)) (Nat.le_trans D4.out.size (Nat.le_trans D5.out.size hb.size)) (by decide) (HA5.out.up hb) (HU.out.up (B5.out.trans (hb.mono B5.out.size)) HU.out.1))
  rw[MV.out] at C2
  clear hb hk hbx K4 HA4 HB4 C1
  go_wp2_with (refine wpList_load_mid rfl 31 (.tmp 3) rfl q 0 rfl ms _ K5.out.range2 Tryz.underlying31 rfl S7.out ?_)
  refine(C2.out _ (Below.refl _ _)).mono ?_
  rintro e w6 ⟨F2,v2,rfl,hv,hb,hk⟩
  rw[lm_all] at hv⊢
  obtain⟨A2,c2,hv2,_⟩:=hv.sl
  subst hv2
  have HV6:=Lib.hid (show Sl rpR w6 (.slice A2 lmRps.length c2) lmRps from hv.sl)
  have B6:=Lib.hid (B5.out.trans (hb.mono B5.out.size))
  have HB6:=Lib.hid (HB5.out.up hb)
  have HK6:=Lib.hid (HK5.out.up (Loose.of hb))
  have HX6:=Lib.hid (HX5.out.later hb)
  clear hv hb hk C2 K5
  have Q7:=md_S (ms:=mdCells F2 lmEnd) rfl
  have QO7:=md_o (ms:=mdCells F2 lmEnd) rfl
  have MV2:=Lib.hid (show mdV F2 lmEnd=.agg (mdCells F2 lmEnd).toArray from rfl)
  simp only
  rw[MV2.out]
  obtain⟨es,hes⟩:∃es:List Value,es=mdCells F2 lmEnd:=⟨_,rfl⟩
  rw[←hes]
  rw[←hes] at Q7 QO7
  have QL7:=md_l hes
  clear hes MV2
  go_upto_region 7 with(refine wpList_store_row rfl 31 (.tmp 8) (.tmp 34) rfl w6.heap.size es.toArray rfl rfl 31 _ (BoxN.new _ _ _) Q7.out QL7.out.symm QO7.out ?_)
  have hbn:BoxN (w6.alloc (.cells #[.int .i64 0,.int .i64 0,.int .i64 0,.slice none 0 0,.int .i64 0,.slice none 0 0,.slice none 0 0] 31)) w6.heap.size 31 #[.int .i64 0,.int .i64 0,.int .i64 0,.slice none 0 0,.int .i64 0,.slice none 0 0,.slice none 0 0]:=BoxN.new w6 31 #[.int .i64 0,.int .i64 0,.int .i64 0,.slice none 0 0,.int .i64 0,.slice none 0 0,.slice none 0 0]
  have hrow:=grownBy_setRow hbn es.toArray
  refine at_world (fun X=>Below w6.heap.size w6 X) ((ba w6 (.cells #[.int .i64 0,.int .i64 0,.int .i64 0,.slice none 0 0,.int .i64 0,.slice none 0 0,.slice none 0 0] 31)).grown hrow.1 (by simp) (fun k hk=>by injection hk with hk;omega)) fun w7 hb=> ?_
  have B7:=Lib.hid (B6.out.trans (hb.mono B6.out.size))
  have HV7:=Lib.hid (HV6.out.up hb)
  have HB7:=Lib.hid (HB6.out.up hb)
  have HK7:=Lib.hid (HK6.out.up (Loose.of hb))
  have HX7:=Lib.hid (HX6.out.later hb)
  clear hbn hrow hb HV6 HB6 HK6 HX6
  have hst:=HK7.out.isMd.seats
  obtain⟨bs,off,hA0,hbl,c0,c1,c2',c3,c4,_⟩:=hst.atX (k:=0) (by rw[lm_half.2.2.1];decide)
  have e0:lmHalf.seats[0]'(by rw[lm_half.2.2.1];decide)=⟨1,2,10,1,0⟩:=by
   have:=lm_half.2.2.2
   rw[List.getD_eq_getElem?_getD,List.getElem?_eq_getElem (by rw[lm_half.2.2.1];decide)] at this
   exact this
  rw[e0] at c0 c1 c2' c3 c4
  have x5:=HX7.out.cell 5 (.slice F'.A lmHalf.seats.length F'.ac) rfl
  rw[hA0,lm_half.2.2.1] at x5
  have z5:=HX7.out.lt
  simp only[Nat.zero_mul,Nat.add_zero] at c0 c1 c2' c3 c4
  have CS:=Lib.hid (fun W (hb:Below w7.heap.size w7 W)=>sameRp_any (HV7.out.up hb) (HB7.out.up hb))
  have hle5:=HX7.out.lt
  clear hst e0 HV7 HB7 HK7 HX7
  simp only[show lmRps.length=13 from rfl] at CS
  go_wp2_with (refine(CS.out _ (Below.refl _ _)).mono ?_;rintro e w8 ⟨rfl,hb8⟩;have B8:=Lib.hid (B7.out.trans (hb8.mono B7.out.size));have x5':=cell_later hb8 x5;have c0':=cell_later hb8 c0;have c1':=cell_later hb8 c1;have c2'':=cell_later hb8 c2';have c3':=cell_later hb8 c3;have c4':=cell_later hb8 c4;have z5':=Nat.lt_of_lt_of_le z5 hb8.size;have hbl':=Nat.lt_of_lt_of_le hbl hb8.size;clear hb8)
  go_ret
  exact⟨rfl,B8.out⟩
end Go.Proofs.YtlckmjiioohcmaaGreatDoor
