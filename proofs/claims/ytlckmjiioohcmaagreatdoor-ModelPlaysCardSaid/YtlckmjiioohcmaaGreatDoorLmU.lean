/-
  Walk of groundlinglaw23.wide. Conditions: none.
-/
import Derived.Test.YtlckmjiioohcmaaGreatDoorLmC
import Derived.Test.YtlckmjiioohcmaaGreatDoorPlMw
import Derived.BigQuiet
namespace Go.Proofs.YtlckmjiioohcmaaGreatDoor
open Go.RowKit
def WidePost (w:World) (e:Ending) (w':World):Prop:=∃b:Bool,e=.returned (.bool b)∧Below w.heap.size w w'
set_option maxRecDepth 20000 in
set_option maxHeartbeats 8000000 in
theorem wide_any {w:World} {V:Option Addr} {vc:Nat} {x:Ve} (hv:Sl secR w (.slice V x.secs.length vc) x.secs):
 Calls Tryz.prog 7 #[.agg #[.int .i64 x.shards,.int .i64 x.ttl,.int .i64 x.session,.slice V x.secs.length vc]] w (WidePost w):=by
 have hcap:=hv.cap
 have HV:=Lib.hid hv
 clear hv
 go_enter Tryz.func7,Tryz.ntmps7
 go_upto_region 1 with fail
 refine at_world (fun W=>Below w.heap.size w W∧Cells W w.heap.size [.int .i64 x.shards,.int .i64 x.ttl,.int .i64 x.session,.slice V x.secs.length vc]) ⟨ba _ _,Cells.new _ _ _⟩ fun w0 ⟨hb0,k0⟩=> ?_
 have HB0:=Lib.hid hb0
 have HK0:=Lib.hid k0
 clear hb0 k0
 go_wp2_with fail
 go_loopw [3,4] (fun n i wr=> ∃k:Nat,k≤x.secs.length∧k≤20∧i=.int .i64 (k:Int)∧∃m:Int,n=.int .i64 m∧0≤m∧m≤20000*k∧Hid (Below w0.heap.size w0 wr)) (fun _ i _=>x.secs.length-(intOf i).toNat)
 case atStart=>exact⟨0,by omega,by omega,rfl,0,rfl,by omega,by omega,Lib.hid (Below.refl _ _)⟩
 case round=>
  obtain⟨k,hk,hk20,rfl,m,rfl,hm0,hm1,HW⟩:=hrel
  rename World=>wq
  have k1:=HK0.out.later HW.out
  have c3:=k1.c 3 _ rfl
  have y1:=k1.lt
  have HBW:=Lib.hid (HB0.out.trans (HW.out.mono HB0.out.size))
  by_cases hlt:k<x.secs.length∧k<20
  ·have t0:decide ((k:Int)<(x.secs.length:Int))=true:=decide_eq_true (by omega)
   have t0':decide ((k:Int)<20)=true:=decide_eq_true (by omega)
   obtain⟨b,off,A',c',hA,hbl,d0,d1,d2,hin,_,hns⟩:=(HV.out.up HBW.out).atS hlt.1
   subst hA
   have hk0:(0:Int)≤(k:Int):=by omega
   have hk1:(k:Int)<(x.secs.length:Int):=by omega
   have HIN:=Lib.hid hin
   have hcap2:=hin.cap
   clear hin
   generalize x.secs[k].rows=rs at d1 HIN hcap2
   generalize x.secs[k].name=nm at d0 hns
   generalize x.secs[k].queue=q at d2
   by_cases h2:100<nm.size
   ·have t2:decide ((100:Int)<(nm.size:Int))=true:=decide_eq_true (by omega)
    go_wp2_with fail
    go_ret
    exact⟨true,rfl,HBW.out⟩
   have t2:decide ((100:Int)<(nm.size:Int))=false:=decide_eq_false (by omega)
   by_cases h1:20<rs.length
   ·have t1:decide ((20:Int)<(rs.length:Int))=true:=decide_eq_true (by omega)
    go_wp2_with fail
    go_ret
    exact⟨true,rfl,HBW.out⟩
   have t1:decide ((20:Int)<(rs.length:Int))=false:=decide_eq_false (by omega)
   have HK1:=Lib.hid k1
   clear k1
   go_upto_region 7 with fail
   go_wp2_with fail
   go_loopw [3,5] (fun n j wx=> ∃l:Nat,l≤rs.length∧j=.int .i64 (l:Int)∧∃m':Int,n=.int .i64 m'∧0≤m'∧m'≤20000*k+1000*l∧Hid (Below wq.heap.size wq wx)) (fun _ j _=>rs.length-(intOf j).toNat)
   case atStart=>exact⟨0,by omega,rfl,m,rfl,by omega,by omega,Lib.hid (Below.refl _ _)⟩
   case round=>
    obtain⟨l,hll,rfl,m',rfl,hm2,hm3,HX⟩:=hrel
    have k2:=HK1.out.later HX.out
    have c3:=k2.c 3 _ rfl
    have y1:=k2.lt
    have e1:=cell_later HX.out d1
    have hbl2:b<wr.heap.size:=Nat.lt_of_lt_of_le hbl HX.out.size
    clear k2
    by_cases hl2:l<rs.length
    ·obtain⟨b3,o3,hA3,_,g0,hbd⟩:=((HIN.out.up HX.out)).atI hl2
     subst hA3
     have hl0:(0:Int)≤(l:Int):=by omega
     have hl1:(l:Int)<(rs.length:Int):=by omega
     have t3:decide ((l:Int)<(rs.length:Int))=true:=decide_eq_true (by omega)
     generalize rs[l]=r at g0 hbd
     have hW:IntKind.i64.wrap (m'+min (max r 0) 1000)=m'+min (max r 0) 1000:=IntWalk.i64_in _ (by omega)
     go_wp2_with fail
     exact⟨⟨l+1,by omega,by go_num,m'+min (max r 0) 1000,by first|rfl|(rw[hW]),by omega,by omega,Lib.hid (by first|exact HX.out|exact bdN HX.out _)⟩,by simp[intOf];omega⟩
    ·have t3:decide ((l:Int)<(rs.length:Int))=false:=decide_eq_false (by omega)
     go_wp2_with fail
     exact⟨⟨k+1,by omega,by omega,by go_num,m',rfl,by omega,by omega,Lib.hid (HW.out.trans (HX.out.mono HW.out.size))⟩,by simp[intOf];omega⟩
  ·by_cases hl1:k<x.secs.length
   ·have t0:decide ((k:Int)<(x.secs.length:Int))=true:=decide_eq_true (by omega)
    have t0':decide ((k:Int)<20)=false:=decide_eq_false (by omega)
    by_cases h10:10<x.secs.length
    ·have t1:decide ((10:Int)<(x.secs.length:Int))=true:=decide_eq_true (by omega)
     go_wp2_with fail
     go_ret
     exact⟨_,rfl,HBW.out⟩
    ·omega
   ·have t0:decide ((k:Int)<(x.secs.length:Int))=false:=decide_eq_false (by omega)
    by_cases h10:10<x.secs.length
    ·have t1:decide ((10:Int)<(x.secs.length:Int))=true:=decide_eq_true (by omega)
     go_wp2_with fail
     go_ret
     exact⟨_,rfl,HBW.out⟩
    ·have t1:decide ((10:Int)<(x.secs.length:Int))=false:=decide_eq_false (by omega)
     obtain⟨t,ht⟩:∃t:Bool,decide ((200:Int)<m)=t:=⟨_,rfl⟩
     go_wp2_with fail
     go_ret
     exact⟨_,rfl,HBW.out⟩
end Go.Proofs.YtlckmjiioohcmaaGreatDoor
