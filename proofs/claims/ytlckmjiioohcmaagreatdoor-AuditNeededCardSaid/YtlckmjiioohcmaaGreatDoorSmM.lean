/-
  Walks of groundlingref32.Same and groundlinglaw15.Far. Conditions: as each theorem says.
  Walk of audit.Name. Conditions: as each theorem says.
  Walks of the examples of groundlinglaw15 and groundlinglaw32. Conditions: none.
  Walk of groundlinglaw32.awake. Conditions: none.
-/
import Derived.Test.YtlckmjiioohcmaaGreatDoorAuA
import Derived.Test.YtlckmjiioohcmaaGreatDoorLmC
import Derived.Test.YtlckmjiioohcmaaGreatDoorAuZ
import Derived.BigRegion
import Derived.Deep.CutRange
import Derived.Test.YtlckmjiioohcmaaGreatDoorLib
namespace Go.Proofs.YtlckmjiioohcmaaGreatDoor
open Go.RowKit
theorem Sl.atF {w:World} {A:Option Addr} {n c k:Nat} {xs:List (Int×Int)} (h:Sl faR w (.slice A n c) xs) (hk:k<xs.length):
 ∃b off,A=some ⟨b,off,.none⟩∧b<w.heap.size∧w.cell? ⟨b,off+k*2,.none⟩=some (.int .i64 xs[k].1)∧w.cell? ⟨b,off+k*2+1,.none⟩=some (.int .i64 xs[k].2)∧Bd xs[k].1∧Bd xs[k].2:=by
 obtain⟨b,off,cs,rfl,hb,⟨rfl,hx⟩,h2⟩:=h.at_ hk
 exact⟨b,off,rfl,hb,h2 0 _ rfl,h2 1 _ rfl,hx⟩
set_option maxHeartbeats 2000000 in
theorem sameF_any {w:World} {A B:Option Addr} {ca cb:Nat} {xs ys:List (Int×Int)} (ha:Sl faR w (.slice A xs.length ca) xs) (hb:Sl faR w (.slice B ys.length cb) ys):
 Calls Tryz.prog 45 #[.slice A xs.length ca,.slice B ys.length cb] w fun e w'=>e=.returned (.bool (decide (xs=ys)))∧Below w.heap.size w w':=by
 have hca:=ha.cap
 have hcb:=hb.cap
 have HA:=Lib.hid ha
 have HB:=Lib.hid hb
 clear ha hb
 by_cases hl:xs.length=ys.length
 case neg=>
  have t0:((xs.length:Int) !=(ys.length:Int))=true:=by simp;omega
  have hT:=Lib.hid (show decide (xs=ys)=false from decide_eq_false fun h=>hl (by rw[h]))
  generalize decide (xs=ys)=M at hT⊢
  go_enter Tryz.func45,Tryz.ntmps45
  go_wp2_with fail
  go_ret
  exact⟨ret_bool hT.out.symm,Below.refl _ _⟩
 have t0:((xs.length:Int) !=(ys.length:Int))=false:=by simp;omega
 have HL:=Lib.hid hl
 have hll:ys.length≤xs.length:=by omega
 clear hl
 obtain⟨M,hM⟩:∃M,decide (xs=ys)=M:=⟨_,rfl⟩
 rw[hM]
 have HM:=Lib.hid hM
 clear hM
 go_enter Tryz.func45,Tryz.ntmps45
 go_wp2_with fail
 go_loopw [5] (fun i wr=> ∃k:Nat,k≤xs.length∧i=.int .i64 k∧Hid (Below w.heap.size w wr)∧Hid (∀j,(h1:j<xs.length)→(h2:j<ys.length)→j<k→xs[j]=ys[j])) (fun i _=>xs.length-(intOf i).toNat)
 case atStart=>exact⟨0,by omega,rfl,Lib.hid (Below.refl _ _),Lib.hid fun j _ _ h=>by omega⟩
 case round=>
  obtain⟨k,hk,rfl,HW,hall⟩:=hrel
  by_cases hlt:k<xs.length
  ·have hlt2:k<ys.length:=by have:=HL.out;omega
   obtain⟨b1,o1,hA,_,d0,d1,_,_⟩:=(HA.out.up HW.out).atF hlt
   obtain⟨b2,o2,hB,_,e0,e1,_,_⟩:=(HB.out.up HW.out).atF hlt2
   subst hA
   subst hB
   have hne:=Lib.hid (show xs[k]≠ys[k]→M=false from fun h=>by rw[←HM.out];exact decide_eq_false fun e=>h (by simp only[e]))
   have hnx:=Lib.hid (show xs[k]=ys[k]→∀j,(h1:j<xs.length)→(h2:j<ys.length)→j<k+1→xs[j]=ys[j] from fun h j h1 h2 hj=>by
    by_cases e:j=k
    ·subst e;exact h
    ·exact hall.out j h1 h2 (by omega))
   generalize xs[k]=x at d0 d1 hne hnx
   generalize ys[k]=y at e0 e1 hne hnx
   obtain⟨x1,x2⟩:=x
   obtain⟨y1,y2⟩:=y
   simp only at d0 d1 e0 e1
   by_cases h1:x1=y1
   ·subst h1
    by_cases h2:x2=y2
    ·subst h2
     go_wp2_with fail
     go_quiet (fail)
     go_wp2_with fail
     go_roundw
     case rel=>exact⟨k+1,by omega,by go_num,Lib.hid (bdN HW.out _),Lib.hid (hnx.out (by first|trivial|rfl))⟩
     case measure=>simp[intOf];omega
    ·have t1:(x2==y2)=false:=by simpa using h2
     have t2:(x2 !=y2)=true:=by simpa using h2
     have hm:=Lib.hid (hne.out (fun h=>h2 (by injection h)))
     go_wp2_with fail
     go_quiet (fail)
     go_wp2_with fail
     go_ret
     exact⟨ret_bool hm.out.symm,bdN HW.out _⟩
   ·have t1:(x1==y1)=false:=by simpa using h1
    have t2:(x1 !=y1)=true:=by simpa using h1
    have hm:=Lib.hid (hne.out (fun h=>h1 (by injection h)))
    go_wp2_with fail
    go_quiet (fail)
    go_wp2_with fail
    go_ret
    exact⟨ret_bool hm.out.symm,bdN HW.out _⟩
  ·have hm:=Lib.hid (show M=true by rw[←HM.out];exact decide_eq_true (eq_of_at HL.out fun j h1 h2=>hall.out j h1 h2 (by omega)))
   go_wp2_with fail
   go_ret
   exact⟨ret_bool hm.out.symm,HW.out⟩
def FarPost (w:World) (e:Ending) (w':World):Prop:=∃b:Bool,e=.returned (.bool b)∧Below w.heap.size w w'
set_option maxRecDepth 20000 in
set_option maxHeartbeats 8000000 in
theorem far_any {w:World} {V:Option Addr} {vc:Nat} {x:Ve} (hv:Sl secR w (.slice V x.secs.length vc) x.secs):
 Calls Tryz.prog 18 #[.agg #[.int .i64 x.shards,.int .i64 x.ttl,.int .i64 x.session,.slice V x.secs.length vc]] w (FarPost w):=by
 have hcap:=hv.cap
 have HV:=Lib.hid hv
 clear hv
 by_cases hl:10<x.secs.length
 ·have t0:decide ((10:Int)<(x.secs.length:Int))=true:=decide_eq_true (by omega)
  go_enter Tryz.func18,Tryz.ntmps18
  go_wp2_with fail
  go_ret
  exact⟨true,rfl,ba _ _⟩
 have t0:decide ((10:Int)<(x.secs.length:Int))=false:=decide_eq_false (by omega)
 go_enter Tryz.func18,Tryz.ntmps18
 go_wp2_with fail
 refine at_world (fun W=>Below w.heap.size w W∧Cells W w.heap.size [.int .i64 x.shards,.int .i64 x.ttl,.int .i64 x.session,.slice V x.secs.length vc]) ⟨ba _ _,Cells.new _ _ _⟩ fun w0 ⟨hb0,k0⟩=> ?_
 have HB0:=Lib.hid hb0
 have HK0:=Lib.hid k0
 clear hb0 k0
 go_loopw [3,4] (fun n i wr=> ∃k:Nat,k≤x.secs.length∧i=.int .i64 k∧∃m:Int,n=.int .i64 m∧0≤m∧m≤2000*k∧Hid (Below w0.heap.size w0 wr)) (fun _ i _=>x.secs.length-(intOf i).toNat)
 case atStart=>exact⟨0,by omega,rfl,0,rfl,by omega,by omega,Lib.hid (Below.refl _ _)⟩
 case round=>
  obtain⟨k,hk,rfl,m,rfl,hm0,hm1,HW⟩:=hrel
  have k1:=HK0.out.later HW.out
  have c3:=k1.c 3 _ rfl
  have y1:=k1.lt
  have HBW:=Lib.hid (HB0.out.trans (HW.out.mono HB0.out.size))
  clear k1
  by_cases hlt:k<x.secs.length
  ·obtain⟨b,off,A',c',hA,hbl,d0,d1,d2,hin,_,hns⟩:=(HV.out.up HBW.out).atS hlt
   subst hA
   have HIN:=Lib.hid hin
   have hcap2:=hin.cap
   clear hin
   generalize x.secs[k].rows=rs at d1 HIN hcap2
   generalize x.secs[k].name=nm at d0 hns
   generalize x.secs[k].queue=q at d2
   by_cases h1:20<rs.length
   ·have t1:decide ((20:Int)<(rs.length:Int))=true:=decide_eq_true (by omega)
    go_wp2_with fail
    go_ret
    exact⟨true,rfl,bal HBW.out⟩
   have t1:decide ((20:Int)<(rs.length:Int))=false:=decide_eq_false (by omega)
   by_cases h2:100<nm.size
   ·have t2:decide ((100:Int)<(nm.size:Int))=true:=decide_eq_true (by omega)
    go_wp2_with fail
    go_ret
    exact⟨true,rfl,bal HBW.out⟩
   have t2:decide ((100:Int)<(nm.size:Int))=false:=decide_eq_false (by omega)
   go_wp2_with fail
   refine at_world (fun W=>Below wr.heap.size wr W∧Cells W wr.heap.size [.string nm,.slice A' rs.length c',.int .i64 q]) ⟨ba _ _,Cells.new _ _ _⟩ fun wo ⟨hb1,k2⟩=> ?_
   have HB1:=Lib.hid hb1
   have HK2:=Lib.hid k2
   have e1:=k2.c 1 _ rfl
   have y2:=k2.lt
   clear hb1 k2 d0 d1 d2 c3 y1
   go_loop [3,6] (fun n j=> ∃l:Nat,l≤rs.length∧j=.int .i64 l∧∃m':Int,n=.int .i64 m'∧0≤m'∧m'≤2000*k+100*l) (fun _ j=>rs.length-(intOf j).toNat)
   case atStart=>exact⟨0,by omega,rfl,m,rfl,by omega,by omega⟩
   case round=>
    obtain⟨l,hll,rfl,m',rfl,hm2,hm3⟩:=hrel
    by_cases hl2:l<rs.length
    ·obtain⟨b3,o3,hA3,_,g0,hbd⟩:=(HIN.out.up HB1.out).atI hl2
     subst hA3
     generalize rs[l]=r at g0 hbd
     by_cases h3:0<r
     ·have t3:decide (0<r)=true:=decide_eq_true h3
      by_cases h4:r≤100
      ·have t4:decide (r≤100)=true:=decide_eq_true h4
       have hW:IntKind.i64.wrap (m'+r)=m'+r:=IntWalk.i64_in _ (by omega)
       go_wp2_with fail
       go_round
       case rel=>exact⟨l+1,by omega,by go_num,m'+r,rfl,by omega,by omega⟩
       case measure=>simp[intOf];omega
      ·have t4:decide (r≤100)=false:=decide_eq_false h4
       go_wp2_with fail
       go_round
       case rel=>exact⟨l+1,by omega,by go_num,m',rfl,by omega,by omega⟩
       case measure=>simp[intOf];omega
     ·have t3:decide (0<r)=false:=decide_eq_false h3
      go_wp2_with fail
      go_round
      case rel=>exact⟨l+1,by omega,by go_num,m',rfl,by omega,by omega⟩
      case measure=>simp[intOf];omega
    ·go_wp2_with fail
     go_roundw
     case rel=>exact⟨k+1,by omega,by go_num,m',rfl,by omega,by omega,Lib.hid (HW.out.trans (HB1.out.mono HW.out.size))⟩
     case measure=>simp[intOf];omega
  ·go_wp2_with fail
   go_ret
   exact⟨_,rfl,HBW.out⟩
end Go.Proofs.YtlckmjiioohcmaaGreatDoor
namespace Go.Proofs.YtlckmjiioohcmaaGreatDoor
open Go.RowKit
def nameBs:List ByteArray:=[⟨#[]⟩,⟨#[114,101,112,108,121]⟩,⟨#[114,101,102,117,115,101,100]⟩,⟨#[115,101,115,115,105,111,110]⟩,⟨#[111,119,110,101,114]⟩,⟨#[112,108,97,99,101]⟩,⟨#[99,108,111,99,107]⟩,⟨#[100,101,97,100,108,105,110,101]⟩,⟨#[116,97,107,101,110]⟩,⟨#[104,111,108,100,101,114]⟩,⟨#[118,97,108,105,100]⟩,⟨#[115,111,108,100]⟩,⟨#[116,105,99,107,101,116]⟩,⟨#[108,105,115,116]⟩]
def nameA (rule:Int):ByteArray×Int:=if rule<1∨13<rule then(⟨#[]⟩,2) else(nameBs.getD rule.toNat ⟨#[]⟩,0)
set_option maxHeartbeats 2000000 in
theorem auName_any (rule:Int) (w:World):Calls Tryz.prog 44 #[.int .i64 rule] w fun e w'=>e=.returned (.tuple #[.string (nameA rule).1,.int .i64 (nameA rule).2])∧Below w.heap.size w w':=by
 have hk:rule<1∨13<rule∨rule=1∨rule=2∨rule=3∨rule=4∨rule=5∨rule=6∨rule=7∨rule=8∨rule=9∨rule=10∨rule=11∨rule=12∨rule=13:=by omega
 rcases hk with hk|hk|rfl|rfl|rfl|rfl|rfl|rfl|rfl|rfl|rfl|rfl|rfl|rfl|rfl
 ·have hT:=Lib.hid (show nameA rule=(⟨#[]⟩,2) by rw[nameA,if_pos (.inl hk)])
  have t1:decide (rule<1)=true:=decide_eq_true hk
  clear hk
  go_enter Tryz.func44,Tryz.ntmps44
  go_wp2_with fail
  go_ret2
  exact⟨by rw[hT.out];rfl,ba _ _⟩
 ·have hT:=Lib.hid (show nameA rule=(⟨#[]⟩,2) by rw[nameA,if_pos (.inr hk)])
  have t1:decide (rule<1)=false:=decide_eq_false (by omega)
  have t2:decide (14≤rule)=true:=decide_eq_true (by omega)
  clear hk
  go_enter Tryz.func44,Tryz.ntmps44
  go_wp2_with fail
  go_ret2
  exact⟨by rw[hT.out];rfl,ba _ _⟩
 ·go_enter Tryz.func44,Tryz.ntmps44
  go_wp2_with fail
  go_ret2
  exact⟨rfl,ba _ _⟩
 ·go_enter Tryz.func44,Tryz.ntmps44
  go_wp2_with fail
  go_ret2
  exact⟨rfl,ba _ _⟩
 ·go_enter Tryz.func44,Tryz.ntmps44
  go_wp2_with fail
  go_ret2
  exact⟨rfl,ba _ _⟩
 ·go_enter Tryz.func44,Tryz.ntmps44
  go_wp2_with fail
  go_ret2
  exact⟨rfl,ba _ _⟩
 ·go_enter Tryz.func44,Tryz.ntmps44
  go_wp2_with fail
  go_ret2
  exact⟨rfl,ba _ _⟩
 ·go_enter Tryz.func44,Tryz.ntmps44
  go_wp2_with fail
  go_ret2
  exact⟨rfl,ba _ _⟩
 ·go_enter Tryz.func44,Tryz.ntmps44
  go_wp2_with fail
  go_ret2
  exact⟨rfl,ba _ _⟩
 ·go_enter Tryz.func44,Tryz.ntmps44
  go_wp2_with fail
  go_ret2
  exact⟨rfl,ba _ _⟩
 ·go_enter Tryz.func44,Tryz.ntmps44
  go_wp2_with fail
  go_ret2
  exact⟨rfl,ba _ _⟩
 ·go_enter Tryz.func44,Tryz.ntmps44
  go_wp2_with fail
  go_ret2
  exact⟨rfl,ba _ _⟩
 ·go_enter Tryz.func44,Tryz.ntmps44
  go_wp2_with fail
  go_ret2
  exact⟨rfl,ba _ _⟩
 ·go_enter Tryz.func44,Tryz.ntmps44
  go_wp2_with fail
  go_ret2
  exact⟨rfl,ba _ _⟩
 ·go_enter Tryz.func44,Tryz.ntmps44
  go_wp2_with fail
  go_ret2
  exact⟨rfl,ba _ _⟩
end Go.Proofs.YtlckmjiioohcmaaGreatDoor
namespace Go.Proofs.YtlckmjiioohcmaaGreatDoor
open Go.RowKit
def exV:Ve:=⟨3,10,100,[⟨⟨#[104,97,108,108]⟩,[3,2],2⟩,⟨⟨#[98,111,120]⟩,[2],0⟩]⟩
set_option maxHeartbeats 2000000 in
theorem exV_any (w:World):Calls Tryz.prog 42 #[] w (VePost w exV):=by
 go_enter Tryz.func42,Tryz.ntmps42
 go_wp2_with fail
 refine at_world (fun W=>Below w.heap.size w W∧Cells W w.heap.size [.int .i64 3,.int .i64 10,.int .i64 100,.slice (some ⟨w.heap.size+1+1+1,0,none⟩) 2 2]∧Cells W (w.heap.size+1) [.int .i64 3,.int .i64 2]∧Cells W (w.heap.size+1+1) [.int .i64 2]∧
  Cells W (w.heap.size+1+1+1) [.string ⟨#[104,97,108,108]⟩,.slice (some ⟨w.heap.size+1,0,none⟩) 2 2,.int .i64 2,.string ⟨#[98,111,120]⟩,.slice (some ⟨w.heap.size+1+1,0,none⟩) 1 1,.int .i64 0])
  ⟨bal (bal (bal (ba _ _))),(((Cells.new' _ _ _ _ rfl).alloc _).alloc _).alloc _,((Cells.new' _ _ _ _ (by simp)).alloc _).alloc _,(Cells.new' _ _ _ _ (by simp)).alloc _,Cells.new' _ _ _ _ (by simp)⟩ fun W ⟨hb,k0,k1,k2,k3⟩=> ?_
 have g0:=k0.c 0 _ rfl
 have g1:=k0.c 1 _ rfl
 have g2:=k0.c 2 _ rfl
 have g3:=k0.c 3 _ rfl
 have hs1:Sl intR W (.slice (some ⟨w.heap.size+1,0,none⟩) 2 2) [3,2]:=k1.sl (many_ints (xs:=[3,2]) (by simp[Bd])) rfl (by omega)
 have hs2:Sl intR W (.slice (some ⟨w.heap.size+1+1,0,none⟩) 1 1) [2]:=k2.sl (many_ints (xs:=[2]) (by simp[Bd])) rfl (by omega)
 have hs3:Sl secR W (.slice (some ⟨w.heap.size+1+1+1,0,none⟩) 2 2) exV.secs:=k3.sl (R:=secR) ⟨[.string ⟨#[104,97,108,108]⟩,.slice (some ⟨w.heap.size+1,0,none⟩) 2 2,.int .i64 2],_,rfl,⟨_,_,rfl,hs1,by simp[Bd],by decide⟩,⟨_,[],rfl,⟨_,_,rfl,hs2,by simp[Bd],by decide⟩,rfl⟩⟩ rfl (by omega)
 refine bodyPost_ret (v:=.agg #[.int .i64 3,.int .i64 10,.int .i64 100,.slice (some ⟨w.heap.size+1+1+1,0,none⟩) 2 2]) (by simp[results,Tryz.results42,go_sem,g0,g1,g2,g3]) rfl ⟨_,_,rfl,hs3,hb⟩
def stCells (p:MOp×MRp):List Value:=[.int .i64 p.1.kind,.int .u32 p.1.owner,.int .i64 p.1.till,.int .i64 p.1.seat,.int .i64 p.1.section_,.int .i64 p.1.n,.int .u32 p.1.to,.int .u32 p.1.tk.seat,.int .u32 p.1.tk.owner,.int .u64 p.1.tk.serial,.int .u64 p.1.tk.epoch,.int .i64 p.1.now,.int .i64 p.2.err,.int .i64 p.2.seat,.int .i64 p.2.n,.int .i64 p.2.deadline,.int .u32 p.2.tk.seat,.int .u32 p.2.tk.owner,.int .u64 p.2.tk.serial,.int .u64 p.2.tk.epoch,.int .i64 p.2.place]
def exL:List (MOp×MRp):=[(⟨2,7,100,3,0,0,0,noTk,0⟩,⟨0,0,0,10,noTk,0⟩),(⟨5,7,100,3,0,0,0,noTk,0⟩,⟨0,0,0,0,⟨3,7,1,0⟩,0⟩),(⟨9,0,0,0,0,0,0,⟨3,7,1,0⟩,0⟩,noRp)]
def StepsPost (w:World) (l:List (MOp×MRp)) (e:Ending) (w':World):Prop:=∃g,e=.returned (.slice (some ⟨g,0,none⟩) l.length l.length)∧w.heap.size≤g∧Cells w' g (l.flatMap stCells)∧Below w.heap.size w w'
set_option maxRecDepth 20000 in
set_option maxHeartbeats 4000000 in
theorem exL_any (w:World):Calls Tryz.prog 43 #[] w (StepsPost w exL):=by
 go_enter Tryz.func43,Tryz.ntmps43
 go_wp2_with fail
 go_ret
 exact⟨_,rfl,by simp,Cells.new' _ (exL.flatMap stCells) _ _ (by simp),bal (ba _ _)⟩
theorem many_steps {w:World}:∀{l:List (MOp×MRp)},(∀p,p∈l→OpOk p.1∧RpOk p.2)→stR.many w (l.flatMap stCells) l
 |[],_=>rfl
 |p::l,h=>⟨stCells p,l.flatMap stCells,rfl,⟨rfl,h p (by simp)⟩,many_steps fun q hq=>h q (by simp[hq])⟩
end Go.Proofs.YtlckmjiioohcmaaGreatDoor
namespace Go.Proofs.YtlckmjiioohcmaaGreatDoor
open Go.RowKit
def exL2:List (MOp×MRp):=[(⟨2,7,100,3,0,0,0,noTk,0⟩,⟨0,0,0,11,noTk,0⟩),(⟨5,7,100,3,0,0,0,noTk,0⟩,⟨0,0,0,0,⟨3,7,1,0⟩,0⟩),(⟨9,0,0,0,0,0,0,⟨3,7,1,0⟩,0⟩,noRp)]
def exL3:List (MOp×MRp):=[(⟨2,7,100,3,0,0,0,noTk,0⟩,⟨0,0,0,10,noTk,0⟩),(⟨5,7,100,3,0,0,0,noTk,0⟩,⟨0,0,0,0,⟨3,7,2,0⟩,0⟩),(⟨9,0,0,0,0,0,0,⟨3,7,1,0⟩,0⟩,noRp)]
theorem ex1:checkA exV exL=([],0):=by decide+kernel
theorem ex2:checkA exV exL2=([(0,7)],0):=by decide+kernel
theorem ex3:checkA exV exL3=([(1,12),(2,10)],0):=by decide+kernel
theorem exN:nameA 8=(⟨#[116,97,107,101,110]⟩,0):=by decide+kernel
theorem okL:∀p,p∈exL→OpOk p.1∧RpOk p.2:=by
 intro p hp
 simp only[exL,List.mem_cons,List.not_mem_nil,or_false] at hp
 rcases hp with rfl|rfl|rfl<;>simp[OpOk,RpOk,TkOk,noTk,noRp,Bd,U32,U64]
theorem okL2:∀p,p∈exL2→OpOk p.1∧RpOk p.2:=by
 intro p hp
 simp only[exL2,List.mem_cons,List.not_mem_nil,or_false] at hp
 rcases hp with rfl|rfl|rfl<;>simp[OpOk,RpOk,TkOk,noTk,noRp,Bd,U32,U64]
theorem okL3:∀p,p∈exL3→OpOk p.1∧RpOk p.2:=by
 intro p hp
 simp only[exL3,List.mem_cons,List.not_mem_nil,or_false] at hp
 rcases hp with rfl|rfl|rfl<;>simp[OpOk,RpOk,TkOk,noTk,noRp,Bd,U32,U64]
theorem set2:(exL.flatMap stCells).set 15 (.int .i64 11)=exL2.flatMap stCells:=rfl
theorem set3:(exL.flatMap stCells).set 39 (.int .u64 2)=exL3.flatMap stCells:=rfl
theorem exCheck {W:World} {V:Option Addr} {vc:Nat} (hv:Sl secR W (.slice V exV.secs.length vc) exV.secs) {l:List (MOp×MRp)} {g n:Nat} (hn:n=l.length) (hn2:n≤1000) (hk:Cells W g (l.flatMap stCells)) (ho:∀p,p∈l→OpOk p.1∧RpOk p.2) {fs:List (Int×Int)} (hc:checkA exV l=(fs,0)):
 Calls Tryz.prog 22 #[.agg #[.int .i64 3,.int .i64 10,.int .i64 100,.slice V 2 vc],.slice (some ⟨g,0,none⟩) n n] W fun e w'=>(∃A c,e=.returned (.tuple #[.slice A fs.length c,.int .i64 0])∧Sl faR w' (.slice A fs.length c) fs)∧Below W.heap.size W w':=by
 subst hn
 refine(auCheck_any (x:=exV) hv (by simp[Bd,exV]) (by simp[Bd,exV]) (by simp[Bd,exV]) (hk.sl (many_steps ho) rfl (by omega))).mono ?_
 rintro e w' ⟨A,c,rfl,h1,h2⟩
 rw[hc] at h1⊢
 exact⟨⟨A,c,rfl,h1.sl⟩,h2⟩
set_option maxRecDepth 20000 in
set_option maxHeartbeats 8000000 in
theorem awake_any (w:World):Calls Tryz.prog 19 #[] w fun e w'=>e=.returned (.bool true)∧Below w.heap.size w w':=by
 go_enter Tryz.func19,Tryz.ntmps19
 go_wp2_with fail
 refine(exV_any _).mono ?_
 rintro e w1 ⟨V,vc,rfl,hV,hb⟩
 have HB:=Lib.hid hb
 have HV:=Lib.hid hV
 change Hid (Sl secR w1 (.slice V 2 vc) exV.secs) at HV
 clear hb hV
 simp only[exV,List.length_cons,List.length_nil,Nat.zero_add,Nat.reduceAdd]
 go_wp2_with fail
 obtain⟨q,hq⟩:∃q,w1.heap.size=q:=⟨_,rfl⟩
 rw[hq]
 refine at_world (fun W=>Below w.heap.size w W∧Cells W q [.int .i64 3,.int .i64 10,.int .i64 100,.slice V 2 vc]∧Sl secR W (.slice V 2 vc) exV.secs) ⟨bal HB.out,Cells.new' w1 _ _ q hq.symm,HV.out.up (ba _ _)⟩ fun W2 ⟨hb2,k2,v2⟩=> ?_
 have HB2:=Lib.hid hb2
 have HK2:=Lib.hid k2
 have HV2:=Lib.hid v2
 clear hb2 k2 v2 hq HB HV
 refine any_start (by kernel_rfl) ?_
 refine any_two 0 2 (by kernel_rfl) fun K hK=>⟨?_, ?_⟩
 ·have k2:=HK2.out.drew
  have c2_0:=k2.c 0 _ rfl
  have c2_1:=k2.c 1 _ rfl
  have c2_2:=k2.c 2 _ rfl
  have c2_3:=k2.c 3 _ rfl
  have y2:=k2.lt
  clear k2
  go_wp2_with fail
  refine(exL_any _).mono ?_
  rintro e w3 ⟨g1,rfl,hg1,kg1,hb3⟩
  replace hb3:Below W2.heap.size W2 w3:=(bdd (Below.refl _ _)).trans hb3
  clear c2_0 c2_1 c2_2 c2_3 y2
  have KG:=Lib.hid kg1
  have HB3:=Lib.hid (HB2.out.trans (hb3.mono HB2.out.size))
  have HK3:=Lib.hid (HK2.out.later hb3)
  have HV3:=Lib.hid (HV2.out.up hb3)
  clear kg1 hb3 hg1
  have k3:=HK3.out
  have c3_0:=k3.c 0 _ rfl
  have c3_1:=k3.c 1 _ rfl
  have c3_2:=k3.c 2 _ rfl
  have c3_3:=k3.c 3 _ rfl
  have y3:=k3.lt
  clear k3
  simp only[exL,List.length_cons,List.length_nil,Nat.zero_add,Nat.reduceAdd]
  go_wp2_with fail
  refine(exCheck (l:=exL) (n:=3) HV3.out rfl (by omega) KG.out okL ex1).mono ?_
  rintro e w4 ⟨⟨A1,d1,rfl,hA1⟩,hb4⟩
  have HA1:=Lib.hid hA1
  have HB4:=Lib.hid (HB3.out.trans (hb4.mono HB3.out.size))
  have HK4:=Lib.hid (HK3.out.later hb4)
  have HV4:=Lib.hid (HV3.out.up hb4)
  clear hA1 hb4
  clear c3_0 c3_1 c3_2 c3_3 y3
  go_wp2_with fail
  refine hK.out _ _ ?_
  clear hK K
  refine any_rest 4 (by kernel_rfl) ?_
  simp only[List.drop_succ_cons,List.drop_zero]
  repeat(go_big_quiet_step (fail))
  refine wpQuiet_nil ?_
  refine gro_end fun W5 hb5=> ?_
  have HB5:=Lib.hid (HB4.out.trans (hb5.mono HB4.out.size))
  have HK5:=Lib.hid (HK4.out.later hb5)
  have HV5:=Lib.hid (HV4.out.up hb5)
  have HF1:=Lib.hid (HA1.out.up hb5)
  clear hb5
  go_wp2_with fail
  refine(exL_any _).mono ?_
  rintro e w6 ⟨g2,rfl,hg2,kg2,hb6⟩
  simp only[exL,List.length_cons,List.length_nil,Nat.zero_add,Nat.reduceAdd]
  have e15:=kg2.c 15 _ rfl
  have f15:=kg2.f 15
  have z2:=kg2.lt
  have KG2:=Lib.hid kg2
  have HB6:=Lib.hid hb6
  have hg2':W5.heap.size≤g2:=hg2
  have hqW:=HK5.out.lt
  clear kg2 hb6 hg2
  have k6:=(HK5.out.later HB6.out).grown (grownBy_set w6 g2 15 (.int .i64 11)) (fun e=>by injection e with e;omega)
  have c6_0:=k6.c 0 _ rfl
  have c6_1:=k6.c 1 _ rfl
  have c6_2:=k6.c 2 _ rfl
  have c6_3:=k6.c 3 _ rfl
  have y6:q<w6.heap.size:=by have:=k6.lt;simpa using this
  clear k6
  go_wp2_with fail
  obtain hs2:=KG2.out.set1 (j:=15) (u:=.int .i64 11)
  rw[set2] at hs2
  have hbw:=(Below.refl W5.heap.size W5).trans HB6.out|>.setCell (p:=⟨g2,15,none⟩) hg2' (.int .i64 11)
  refine(exCheck (l:=exL2) (n:=3) (HV5.out.up hbw) rfl (by omega) hs2 okL2 ex2).mono ?_
  rintro e w7 ⟨⟨A2,d2,rfl,hA2⟩,hb7⟩
  have hb57:Below W5.heap.size W5 w7:=hbw.trans (hb7.mono hbw.size)
  have HA2:=Lib.hid hA2
  have HB7:=Lib.hid (HB5.out.trans (hb57.mono HB5.out.size))
  have HK7:=Lib.hid (HK5.out.later hb57)
  have HV7:=Lib.hid (HV5.out.up hb57)
  have HF2:=Lib.hid (HF1.out.up hb57)
  clear hA2 hb7 hb57 hbw hs2 e15 f15 z2 hqW hg2'
  clear c6_0 c6_1 c6_2 c6_3 y6
  go_wp2_with fail
  refine(exL_any _).mono ?_
  rintro e w8 ⟨g3,rfl,hg3,kg3,hb8⟩
  simp only[exL,List.length_cons,List.length_nil,Nat.zero_add,Nat.reduceAdd]
  have e39:=kg3.c 39 _ rfl
  have f39:=kg3.f 39
  have z3:=kg3.lt
  have KG3:=Lib.hid kg3
  have HB8:=Lib.hid hb8
  have hg3':w7.heap.size≤g3:=hg3
  have hqW:=HK7.out.lt
  clear kg3 hb8 hg3
  have k8:=(HK7.out.later HB8.out).grown (grownBy_set w8 g3 39 (.int .u64 2)) (fun e=>by injection e with e;omega)
  have c8_0:=k8.c 0 _ rfl
  have c8_1:=k8.c 1 _ rfl
  have c8_2:=k8.c 2 _ rfl
  have c8_3:=k8.c 3 _ rfl
  have y8:q<w8.heap.size:=by have:=k8.lt;simpa using this
  clear k8
  go_wp2_with fail
  obtain hs3:=KG3.out.set1 (j:=39) (u:=.int .u64 2)
  rw[set3] at hs3
  have hbw:=(Below.refl w7.heap.size w7).trans HB8.out|>.setCell (p:=⟨g3,39,none⟩) hg3' (.int .u64 2)
  refine(exCheck (l:=exL3) (n:=3) (HV7.out.up hbw) rfl (by omega) hs3 okL3 ex3).mono ?_
  rintro e w9 ⟨⟨A3,d3,rfl,hA3⟩,hb9⟩
  have hb79:Below w7.heap.size w7 w9:=hbw.trans (hb9.mono hbw.size)
  have HA3:=Lib.hid hA3
  have HB9:=Lib.hid (HB7.out.trans (hb79.mono HB7.out.size))
  have HF3:=Lib.hid (HA2.out.up hb79)
  clear hA3 hb9 hb79 hbw hs3 e39 f39 z3 hqW hg3'
  clear c8_0 c8_1 c8_2 c8_3 y8
  go_wp2_with fail
  refine(auName_any 8 _).mono ?_
  rw[exN]
  rintro e w10 ⟨rfl,hb10⟩
  have HB10:=Lib.hid (HB9.out.trans (hb10.mono HB9.out.size))
  have HF4:=Lib.hid (HF3.out.up hb10)
  have HF5:=Lib.hid (HA3.out.up hb10)
  clear hb10
  go_wp2_with fail
  refine(sameF_any (xs:=[(0,7)]) (ys:=[(0,7)]) (HF4.out.up (ba _ _)) (sl_two w10 _ (0,7) _ rfl (by simp[Bd]) (by simp[Bd]))).mono ?_
  rintro e w11 ⟨rfl,hb11⟩
  replace hb11:Below w10.heap.size w10 w11:=(ba _ _).trans (hb11.mono (by simp))
  have HB11:=Lib.hid (HB10.out.trans (hb11.mono HB10.out.size))
  have HF6:=Lib.hid (HF5.out.up hb11)
  clear hb11
  rw[show decide ([((0:Int),(7:Int))]=[(0,7)])=true by decide]
  go_wp2_with fail
  refine(sameF_any (xs:=[(1,12),(2,10)]) (ys:=[(1,12),(2,10)]) (HF6.out.up (ba _ _)) ((Cells.new' w11 [.int .i64 1,.int .i64 12,.int .i64 2,.int .i64 10] _ _ rfl).sl (R:=faR) ⟨[.int .i64 1,.int .i64 12],_,rfl,⟨rfl,by simp[Bd],by simp[Bd]⟩,⟨_,[],rfl,⟨rfl,by simp[Bd],by simp[Bd]⟩,rfl⟩⟩ rfl (by simp))).mono ?_
  rintro e w12 ⟨rfl,hb12⟩
  replace hb12:Below w11.heap.size w11 w12:=(ba _ _).trans (hb12.mono (by simp))
  have HB12:=Lib.hid (HB11.out.trans (hb12.mono HB11.out.size))
  clear hb12
  rw[show decide ([((1:Int),(12:Int)),(2,10)]=[(1,12),(2,10)])=true by decide]
  go_wp2_with fail
  go_ret
  exact⟨rfl,HB12.out⟩
 ·have k2:=HK2.out.drew
  have c2_0:=k2.c 0 _ rfl
  have c2_1:=k2.c 1 _ rfl
  have c2_2:=k2.c 2 _ rfl
  have c2_3:=k2.c 3 _ rfl
  have y2:=k2.lt
  clear k2
  go_wp2_with fail
  refine(exL_any _).mono ?_
  rintro e w3 ⟨g1,rfl,hg1,kg1,hb3⟩
  replace hb3:Below W2.heap.size W2 w3:=(bdd (Below.refl _ _)).trans hb3
  clear c2_0 c2_1 c2_2 c2_3 y2
  have KG:=Lib.hid kg1
  have HB3:=Lib.hid (HB2.out.trans (hb3.mono HB2.out.size))
  have HK3:=Lib.hid (HK2.out.later hb3)
  have HV3:=Lib.hid (HV2.out.up hb3)
  clear kg1 hb3 hg1
  have k3:=HK3.out
  have c3_0:=k3.c 0 _ rfl
  have c3_1:=k3.c 1 _ rfl
  have c3_2:=k3.c 2 _ rfl
  have c3_3:=k3.c 3 _ rfl
  have y3:=k3.lt
  clear k3
  simp only[exL,List.length_cons,List.length_nil,Nat.zero_add,Nat.reduceAdd]
  go_wp2_with fail
  refine(exCheck (l:=exL) (n:=3) HV3.out rfl (by omega) KG.out okL ex1).mono ?_
  rintro e w4 ⟨⟨A1,d1,rfl,hA1⟩,hb4⟩
  have HA1:=Lib.hid hA1
  have HB4:=Lib.hid (HB3.out.trans (hb4.mono HB3.out.size))
  have HK4:=Lib.hid (HK3.out.later hb4)
  have HV4:=Lib.hid (HV3.out.up hb4)
  clear hA1 hb4
  clear c3_0 c3_1 c3_2 c3_3 y3
  go_wp2_with fail
  refine hK.out _ _ ?_
  clear hK K
  refine any_rest 4 (by kernel_rfl) ?_
  simp only[List.drop_succ_cons,List.drop_zero]
  repeat(go_big_quiet_step (fail))
  refine wpQuiet_nil ?_
  refine gro_end fun W5 hb5=> ?_
  have HB5:=Lib.hid (HB4.out.trans (hb5.mono HB4.out.size))
  have HK5:=Lib.hid (HK4.out.later hb5)
  have HV5:=Lib.hid (HV4.out.up hb5)
  have HF1:=Lib.hid (HA1.out.up hb5)
  clear hb5
  go_wp2_with fail
  refine(exL_any _).mono ?_
  rintro e w6 ⟨g2,rfl,hg2,kg2,hb6⟩
  simp only[exL,List.length_cons,List.length_nil,Nat.zero_add,Nat.reduceAdd]
  have e15:=kg2.c 15 _ rfl
  have f15:=kg2.f 15
  have z2:=kg2.lt
  have KG2:=Lib.hid kg2
  have HB6:=Lib.hid hb6
  have hg2':W5.heap.size≤g2:=hg2
  have hqW:=HK5.out.lt
  clear kg2 hb6 hg2
  have k6:=(HK5.out.later HB6.out).grown (grownBy_set w6 g2 15 (.int .i64 11)) (fun e=>by injection e with e;omega)
  have c6_0:=k6.c 0 _ rfl
  have c6_1:=k6.c 1 _ rfl
  have c6_2:=k6.c 2 _ rfl
  have c6_3:=k6.c 3 _ rfl
  have y6:q<w6.heap.size:=by have:=k6.lt;simpa using this
  clear k6
  go_wp2_with fail
  obtain hs2:=KG2.out.set1 (j:=15) (u:=.int .i64 11)
  rw[set2] at hs2
  have hbw:=(Below.refl W5.heap.size W5).trans HB6.out|>.setCell (p:=⟨g2,15,none⟩) hg2' (.int .i64 11)
  refine(exCheck (l:=exL2) (n:=3) (HV5.out.up hbw) rfl (by omega) hs2 okL2 ex2).mono ?_
  rintro e w7 ⟨⟨A2,d2,rfl,hA2⟩,hb7⟩
  have hb57:Below W5.heap.size W5 w7:=hbw.trans (hb7.mono hbw.size)
  have HA2:=Lib.hid hA2
  have HB7:=Lib.hid (HB5.out.trans (hb57.mono HB5.out.size))
  have HK7:=Lib.hid (HK5.out.later hb57)
  have HV7:=Lib.hid (HV5.out.up hb57)
  have HF2:=Lib.hid (HF1.out.up hb57)
  clear hA2 hb7 hb57 hbw hs2 e15 f15 z2 hqW hg2'
  clear c6_0 c6_1 c6_2 c6_3 y6
  go_wp2_with fail
  refine(exL_any _).mono ?_
  rintro e w8 ⟨g3,rfl,hg3,kg3,hb8⟩
  simp only[exL,List.length_cons,List.length_nil,Nat.zero_add,Nat.reduceAdd]
  have e39:=kg3.c 39 _ rfl
  have f39:=kg3.f 39
  have z3:=kg3.lt
  have KG3:=Lib.hid kg3
  have HB8:=Lib.hid hb8
  have hg3':w7.heap.size≤g3:=hg3
  have hqW:=HK7.out.lt
  clear kg3 hb8 hg3
  have k8:=(HK7.out.later HB8.out).grown (grownBy_set w8 g3 39 (.int .u64 2)) (fun e=>by injection e with e;omega)
  have c8_0:=k8.c 0 _ rfl
  have c8_1:=k8.c 1 _ rfl
  have c8_2:=k8.c 2 _ rfl
  have c8_3:=k8.c 3 _ rfl
  have y8:q<w8.heap.size:=by have:=k8.lt;simpa using this
  clear k8
  go_wp2_with fail
  obtain hs3:=KG3.out.set1 (j:=39) (u:=.int .u64 2)
  rw[set3] at hs3
  have hbw:=(Below.refl w7.heap.size w7).trans HB8.out|>.setCell (p:=⟨g3,39,none⟩) hg3' (.int .u64 2)
  refine(exCheck (l:=exL3) (n:=3) (HV7.out.up hbw) rfl (by omega) hs3 okL3 ex3).mono ?_
  rintro e w9 ⟨⟨A3,d3,rfl,hA3⟩,hb9⟩
  have hb79:Below w7.heap.size w7 w9:=hbw.trans (hb9.mono hbw.size)
  have HA3:=Lib.hid hA3
  have HB9:=Lib.hid (HB7.out.trans (hb79.mono HB7.out.size))
  have HF3:=Lib.hid (HA2.out.up hb79)
  clear hA3 hb9 hb79 hbw hs3 e39 f39 z3 hqW hg3'
  clear c8_0 c8_1 c8_2 c8_3 y8
  go_wp2_with fail
  refine(auName_any 8 _).mono ?_
  rw[exN]
  rintro e w10 ⟨rfl,hb10⟩
  have HB10:=Lib.hid (HB9.out.trans (hb10.mono HB9.out.size))
  have HF4:=Lib.hid (HF3.out.up hb10)
  have HF5:=Lib.hid (HA3.out.up hb10)
  clear hb10
  go_wp2_with fail
  refine(sameF_any (xs:=[(0,7)]) (ys:=[(0,7)]) (HF4.out.up (ba _ _)) (sl_two w10 _ (0,7) _ rfl (by simp[Bd]) (by simp[Bd]))).mono ?_
  rintro e w11 ⟨rfl,hb11⟩
  replace hb11:Below w10.heap.size w10 w11:=(ba _ _).trans (hb11.mono (by simp))
  have HB11:=Lib.hid (HB10.out.trans (hb11.mono HB10.out.size))
  have HF6:=Lib.hid (HF5.out.up hb11)
  clear hb11
  rw[show decide ([((0:Int),(7:Int))]=[(0,7)])=true by decide]
  go_wp2_with fail
  refine(sameF_any (xs:=[(1,12),(2,10)]) (ys:=[(1,12),(2,10)]) (HF6.out.up (ba _ _)) ((Cells.new' w11 [.int .i64 1,.int .i64 12,.int .i64 2,.int .i64 10] _ _ rfl).sl (R:=faR) ⟨[.int .i64 1,.int .i64 12],_,rfl,⟨rfl,by simp[Bd],by simp[Bd]⟩,⟨_,[],rfl,⟨rfl,by simp[Bd],by simp[Bd]⟩,rfl⟩⟩ rfl (by simp))).mono ?_
  rintro e w12 ⟨rfl,hb12⟩
  replace hb12:Below w11.heap.size w11 w12:=(ba _ _).trans (hb12.mono (by simp))
  have HB12:=Lib.hid (HB11.out.trans (hb12.mono HB11.out.size))
  clear hb12
  rw[show decide ([((1:Int),(12:Int)),(2,10)]=[(1,12),(2,10)])=true by decide]
  go_wp2_with fail
  go_ret
  exact⟨rfl,HB12.out⟩
end Go.Proofs.YtlckmjiioohcmaaGreatDoor
