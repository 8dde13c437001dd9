/-
  Walks of slices.IndexFunc and slices.ContainsFunc at the audit reader's seats, of the closure of rules, and of audit.bad. Conditions: as each theorem says.
-/
import Derived.Test.YtlckmjiioohcmaaGreatDoorAuE
namespace Go.Proofs.YtlckmjiioohcmaaGreatDoor
open Go.RowKit
set_option maxHeartbeats 400000 in
theorem indexFuncE_any (p:Se→Bool) (g:Nat) (lb:Array Value) (eg:∀args w,(callFunc g args).run Tryz.prog w=.ok (.enter g args) w) (v:Value) (xs:List (Se)) (w:World) (hs:Sl seR w v xs)
 (hp:∀W x,Below w.heap.size w W→x∈xs→Calls Tryz.prog g (#[.agg #[.bool x.sold,.bool x.held,.int .u32 x.owner,.int .i64 x.till,.int .u64 x.serial,.int .u64 x.epoch]]++lb) W fun e w'=>e=.returned (.bool (p x))∧Below W.heap.size W w'):
 Calls Tryz.prog 84 #[v,.func (.func g) #[] lb] w fun e w'=>e=.returned (.int .i64 (idxOf p xs))∧Below w.heap.size w w':=by
 obtain⟨A,c,rfl,_,hm,hs⟩:=hs.open
 have hlen:xs.length≤9223372036854775807:=by omega
 go_enter Tryz.func84,Tryz.ntmps84
 go_wp2
 go_loopw [8] (fun i wr=> ∃k:Nat,k≤xs.length∧i=.int .i64 k∧Below w.heap.size w wr∧Hid (∀j,(hj:j<k)→(hj':j<xs.length)→p xs[j]=false)) (fun i _=>xs.length-(intOf i).toNat)
 case atStart=>exact⟨0,by omega,rfl,Below.refl _ _,fun j hj=>by omega⟩
 case round=>
  obtain⟨k,hk,rfl,hb,hall⟩:=hrel
  by_cases hlt:k<xs.length
  ·obtain⟨b,off,rfl,hbl,hc0,hc1,hc2,hc3,hc4,hc5,_,_,_,_⟩:=(hs.up hb).atE hlt
   have hcall:=hp wr xs[k] hb (List.getElem_mem hlt)
   have HB:=Lib.hid hb
   clear hb hs
   cases hq:p xs[k] with
   |true=>
    rw[hq] at hcall
    have HQ:=Lib.hid hq
    have C:=Lib.hid hcall
    clear hq hcall hp
    go_wp2_with (refine C.out.mono ?_;rintro e w' ⟨rfl,hb1⟩)
    go_ret
    exact⟨ret_int (idxOf_hit hlt HQ.out fun j hj=>hall.out j hj (by omega)).symm,HB.out.trans (hb1.mono HB.out.size)⟩
   |false=>
    rw[hq] at hcall
    have HQ:=Lib.hid hq
    have C:=Lib.hid hcall
    clear hq hcall hp
    go_wp2_with (refine C.out.mono ?_;rintro e w' ⟨rfl,hb1⟩)
    go_roundw
    case rel=>
     refine⟨k+1,by omega,by go_num,HB.out.trans (hb1.mono HB.out.size),fun j hj hj'=> ?_⟩
     by_cases e:j=k
     ·subst e;exact HQ.out
     ·exact hall.out j (by omega) hj'
    case measure=>simp[intOf];omega
  ·have HB:=Lib.hid hb
   clear hb hs hp
   go_wp2
   go_ret
   refine⟨ret_int (idxOf_miss fun x hx=> ?_).symm,HB.out⟩
   obtain⟨j,hj,rfl⟩:=List.getElem_of_mem hx
   exact hall.out j (by omega) hj
set_option maxHeartbeats 400000 in
theorem containsFuncE_any (p:Se→Bool) (g:Nat) (lb:Array Value) (eg:∀args w,(callFunc g args).run Tryz.prog w=.ok (.enter g args) w) (v:Value) (xs:List (Se)) (w:World) (hs:Sl seR w v xs)
 (hp:∀W x,Below w.heap.size w W→x∈xs→Calls Tryz.prog g (#[.agg #[.bool x.sold,.bool x.held,.int .u32 x.owner,.int .i64 x.till,.int .u64 x.serial,.int .u64 x.epoch]]++lb) W fun e w'=>e=.returned (.bool (p x))∧Below W.heap.size W w'):
 Calls Tryz.prog 51 #[v,.func (.func g) #[] lb] w fun e w'=>e=.returned (.bool (xs.any p))∧Below w.heap.size w w':=by
 have C:=Lib.hid (indexFuncE_any p g lb eg v xs w hs hp)
 clear hp eg hs
 have h1:=Lib.hid (idxOf_any (p:=p) (xs:=xs))
 generalize idxOf p xs=r at C h1
 go_enter Tryz.func51,Tryz.ntmps51
 go_wp2_with (go_at_call 84;refine C.out.mono ?_;rintro e w' ⟨rfl,hb1⟩)
 go_ret
 exact⟨ret_bool h1.out,hb1⟩
theorem taken1_any (x:Se) (w:World):Calls Tryz.prog 158 #[.agg #[.bool x.sold,.bool x.held,.int .u32 x.owner,.int .i64 x.till,.int .u64 x.serial,.int .u64 x.epoch]] w fun e w'=>e=.returned (.bool (x.sold||x.held))∧Below w.heap.size w w':=by
 obtain⟨so,he,ow,ti,se,ep⟩:=x
 cases so with
 |true=>
  go_enter Tryz.func158,Tryz.ntmps158
  go_wp2
  go_ret
  exact⟨rfl,ba _ _⟩
 |false=>
  go_enter Tryz.func158,Tryz.ntmps158
  go_wp2
  go_ret
  exact⟨rfl,ba _ _⟩
def badA (x:Se):Bool:=if x.sold&&x.held then true else if x.till<0 then true else if x.held then false else if x.sold then x.till !=0 else(x.till !=0||x.owner !=0)
end Go.Proofs.YtlckmjiioohcmaaGreatDoor
