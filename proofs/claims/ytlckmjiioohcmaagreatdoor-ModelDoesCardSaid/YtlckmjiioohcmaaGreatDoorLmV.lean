/-
  Walk of groundlinglaw23.large. Conditions: as the theorem says.
-/
import Derived.Test.YtlckmjiioohcmaaGreatDoorLmU
import Derived.Test.YtlckmjiioohcmaaGreatDoorRvM
namespace Go.Proofs.YtlckmjiioohcmaaGreatDoor
open Go.RowKit
def LargePost (s:Md) (w:World) (e:Ending) (w':World):Prop:=∃b:Bool,e=.returned (.bool b)∧Below w.heap.size w w'∧(b=false→s.qs.length≤1000∧∀l,l∈s.qs→l.length≤1000)
set_option maxHeartbeats 4000000 in
set_option maxRecDepth 20000 in
theorem large_any (F:MFrm) (s:Md) (w:World) (hs:IsMd w F s):Calls Tryz.prog 15 #[mdV F s] w (LargePost s w):=by
 have CW:=Lib.hid (fun W (hb:Below w.heap.size w W)=>wide_any (hs.up hb).secs)
 have HS:=Lib.hid hs
 have hcapS:=hs.seats.capB
 have hcapQ:=hs.qs.capB
 clear hs
 unfold WidePost at CW
 have MVk:=Lib.hid (show mdV F s=.agg (mdCells F s).toArray from rfl)
 rw[MVk.out]
 obtain⟨ms,hms⟩:∃ms:List Value,ms=mdCells F s:=⟨_,rfl⟩
 rw[←hms]
 have HMS:=Lib.hid hms
 clear hms MVk
 go_enter Tryz.func15,Tryz.ntmps15
 go_upto_region 1 with fail
 obtain⟨q,hq⟩:∃q,w.heap.size=q:=⟨_,rfl⟩
 rw[hq]
 refine at_world (fun X=>Below w.heap.size w X∧BoxN X q 31 ms.toArray) ⟨ba _ _,hq▸BoxN.new w 31 ms.toArray⟩ fun w0 hw0=> ?_
 have B0:=Lib.hid hw0.1
 have K0:=Lib.hid hw0.2
 clear hw0
 go_wp2_with fail
 go_loopw [3] (fun iv wr=> ∃k:Nat,k≤s.qs.length∧k≤30∧iv=.int .i64 (k:Int)∧Hid (Below w0.heap.size w0 wr)∧Hid (∀j,(hj:j<s.qs.length)→j<k→s.qs[j].length≤100)) (fun iv _=>30-(intOf iv).toNat)
 case atStart=>exact⟨0,by omega,by omega,rfl,Lib.hid (Below.refl _ _),Lib.hid (fun _ _ h=>by omega)⟩
 case round=>
  obtain⟨k,hk,hk30,rfl,HR,HJ⟩:=hrel
  rename World=>wr
  have BR:=Lib.hid (B0.out.trans (HR.out.mono B0.out.size))
  have KR:=Lib.hid (show BoxN wr q 31 (mdCells F s).toArray from HMS.out▸K0.out.later HR.out)
  have m6:=KR.out.cell 6 (.slice F.Q s.qs.length F.qc) rfl
  have m5:=KR.out.cell 5 (.slice F.A s.seats.length F.ac) rfl
  have zq:=KR.out.lt
  by_cases hin:k<s.qs.length∧k<30
  case pos=>
   obtain⟨hin1,hin2⟩:=hin
   have t0:decide ((k:Int)<(s.qs.length:Int))=true:=decide_eq_true (by omega)
   have t1:decide ((k:Int)<30)=true:=decide_eq_true (by omega)
   have t1':decide (k<30)=true:=decide_eq_true hin2
   have hk0:(0:Int)≤(k:Int):=by omega
   have hk1:(k:Int)<(s.qs.length:Int):=by omega
   obtain⟨bQ,oQ,A0,ac0,hQ,hbQ,e0,_⟩:=(HS.out.qs.up BR.out).atQ hin1
   rw[hQ] at m6
   clear hQ
   by_cases hl:100<s.qs[k].length
   ·have t2:decide ((100:Int)<(s.qs[k].length:Int))=true:=decide_eq_true (by omega)
    have t2':decide (100<s.qs[k].length)=true:=decide_eq_true hl
    clear hl HJ
    generalize s.qs[k].length=ql at*
    go_wp2_with fail
    go_ret
    exact⟨true,rfl,by first|exact BR.out|(rw[←hq];exact BR.out),fun h=>by cases h⟩
   ·have t2:decide ((100:Int)<(s.qs[k].length:Int))=false:=decide_eq_false (by omega)
    have t2':decide (100<s.qs[k].length)=false:=decide_eq_false hl
    have HN:=Lib.hid (show∀j,(hj:j<s.qs.length)→j<k+1→s.qs[j].length≤100 from fun j hj hjk=>by
     by_cases e:j=k
     ·subst e;omega
     ·exact HJ.out j hj (by omega))
    have hk31:k+1≤s.qs.length∧k+1≤30:=by omega
    clear hl HJ
    generalize s.qs[k].length=ql at*
    go_wp2_with fail
    exact⟨⟨k+1,by omega,by omega,by go_num,HR,HN⟩,by simp[intOf];omega⟩
  have HJ2:=Lib.hid (show s.qs.length≤20→s.qs.length≤1000∧∀l,l∈s.qs→l.length≤1000 from fun h=>⟨by omega,fun l hl=>by
   obtain⟨j,hj,rfl⟩:=List.getElem_of_mem hl
   have:=HJ.out j hj (by omega)
   omega⟩)
  have m0:=KR.out.cell 0 (.int .i64 s.ve.shards) rfl
  have m1:=KR.out.cell 1 (.int .i64 s.ve.ttl) rfl
  have m2:=KR.out.cell 2 (.int .i64 s.ve.session) rfl
  have m3:=KR.out.cell 3 (.slice F.V s.ve.secs.length F.vc) rfl
  clear HJ
  by_cases hk1:k<s.qs.length
  case pos=>
   obtain rfl:k=30:=by omega
   have t0:decide ((30:Int)<(s.qs.length:Int))=true:=decide_eq_true (by omega)
   have t0':decide (30<s.qs.length)=true:=decide_eq_true hk1
   clear hin hk1
   go_wp2_with fail
   refine(CW.out _ BR.out).mono ?_
   rintro e w2 ⟨b,rfl,hb⟩
   have B2:=Lib.hid (BR.out.trans (hb.mono BR.out.size))
   have K2:=Lib.hid (KR.out.later hb)
   clear hb m0 m1 m2 m3 m5 m6 zq
   have m6:=K2.out.cell 6 (.slice F.Q s.qs.length F.qc) rfl
   have m5:=K2.out.cell 5 (.slice F.A s.seats.length F.ac) rfl
   have zq:=K2.out.lt
   cases b
   case true=>
    go_wp2_with fail
    go_ret
    exact⟨true,rfl,by first|exact B2.out|(rw[←hq];exact B2.out),fun h=>by cases h⟩
   case false=>
    by_cases h3:300<s.seats.length
    ·have t3:decide ((300:Int)<(s.seats.length:Int))=true:=decide_eq_true (by omega)
     have t3':decide (300<s.seats.length)=true:=decide_eq_true h3
     clear h3
     go_wp2_with fail
     go_ret
     exact⟨true,rfl,by first|exact B2.out|(rw[←hq];exact B2.out),fun h=>by cases h⟩
    have t3:decide ((300:Int)<(s.seats.length:Int))=false:=decide_eq_false (by omega)
    have t3':decide (300<s.seats.length)=false:=decide_eq_false h3
    by_cases h4:20<s.qs.length
    ·have t4:decide ((20:Int)<(s.qs.length:Int))=true:=decide_eq_true (by omega)
     have t4':decide (20<s.qs.length)=true:=decide_eq_true h4
     clear h3 h4
     go_wp2_with fail
     go_ret
     exact⟨true,rfl,by first|exact B2.out|(rw[←hq];exact B2.out),fun h=>by cases h⟩
    have t4:decide ((20:Int)<(s.qs.length:Int))=false:=decide_eq_false (by omega)
    have t4':decide (20<s.qs.length)=false:=decide_eq_false h4
    have HX:=Lib.hid (HJ2.out (by omega))
    clear h3 h4
    go_wp2_with fail
    go_ret
    exact⟨false,rfl,by first|exact B2.out|(rw[←hq];exact B2.out),fun _=>HX.out⟩
  case neg=>
   obtain rfl:k=s.qs.length:=by omega
   have t0:decide ((s.qs.length:Int)<(s.qs.length:Int))=false:=by simp
   clear hin hk1
   go_wp2_with fail
   refine(CW.out _ BR.out).mono ?_
   rintro e w2 ⟨b,rfl,hb⟩
   have B2:=Lib.hid (BR.out.trans (hb.mono BR.out.size))
   have K2:=Lib.hid (KR.out.later hb)
   clear hb m0 m1 m2 m3 m5 m6 zq
   have m6:=K2.out.cell 6 (.slice F.Q s.qs.length F.qc) rfl
   have m5:=K2.out.cell 5 (.slice F.A s.seats.length F.ac) rfl
   have zq:=K2.out.lt
   cases b
   case true=>
    go_wp2_with fail
    go_ret
    exact⟨true,rfl,by first|exact B2.out|(rw[←hq];exact B2.out),fun h=>by cases h⟩
   case false=>
    by_cases h3:300<s.seats.length
    ·have t3:decide ((300:Int)<(s.seats.length:Int))=true:=decide_eq_true (by omega)
     have t3':decide (300<s.seats.length)=true:=decide_eq_true h3
     clear h3
     go_wp2_with fail
     go_ret
     exact⟨true,rfl,by first|exact B2.out|(rw[←hq];exact B2.out),fun h=>by cases h⟩
    have t3:decide ((300:Int)<(s.seats.length:Int))=false:=decide_eq_false (by omega)
    have t3':decide (300<s.seats.length)=false:=decide_eq_false h3
    by_cases h4:20<s.qs.length
    ·have t4:decide ((20:Int)<(s.qs.length:Int))=true:=decide_eq_true (by omega)
     have t4':decide (20<s.qs.length)=true:=decide_eq_true h4
     clear h3 h4
     go_wp2_with fail
     go_ret
     exact⟨true,rfl,by first|exact B2.out|(rw[←hq];exact B2.out),fun h=>by cases h⟩
    have t4:decide ((20:Int)<(s.qs.length:Int))=false:=decide_eq_false (by omega)
    have t4':decide (20<s.qs.length)=false:=decide_eq_false h4
    have HX:=Lib.hid (HJ2.out (by omega))
    clear h3 h4
    go_wp2_with fail
    go_ret
    exact⟨false,rfl,by first|exact B2.out|(rw[←hq];exact B2.out),fun _=>HX.out⟩
end Go.Proofs.YtlckmjiioohcmaaGreatDoor
