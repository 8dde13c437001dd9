/-
  Walks of slices.Index and slices.Contains at ints. Conditions: as each theorem says.
-/
import Derived.Test.YtlckmjiioohcmaaGreatDoorVnI
namespace Go.Proofs.YtlckmjiioohcmaaGreatDoor
open Go.RowKit
set_option maxHeartbeats 400000 in
theorem indexI_any (y:Int) (v:Value) (xs:List (Int)) (w:World) (hs:Sl intR w v xs):
 Calls Tryz.prog 186 #[v,.int .i64 y] w fun e w'=>e=.returned (.int .i64 (idxOf (fun x=>y==x) xs))∧w=w':=by
 obtain⟨A,c,rfl,_,hm,hs⟩:=hs.open
 have hlen:xs.length≤9223372036854775807:=by omega
 go_enter Tryz.func186,Tryz.ntmps186
 go_wp2
 go_loop [8] (fun i=> ∃k:Nat,k≤xs.length∧i=.int .i64 k∧Hid (∀j,(hj:j<k)→(hj':j<xs.length)→(y==xs[j])=false)) (fun i=>xs.length-(intOf i).toNat)
 case atStart=>exact⟨0,by omega,rfl,fun j hj=>by omega⟩
 case round=>
  obtain⟨k,hk,rfl,hall⟩:=hrel
  by_cases hlt:k<xs.length
  ·obtain⟨b,off,rfl,hbl,hcell,_⟩:=hs.atI hlt
   clear hs
   cases hq:(y==xs[k]) with
   |true=>
    go_wp2
    go_ret
    exact⟨ret_int (idxOf_hit (p:=fun x=>y==x) hlt hq fun j hj=>hall.out j hj (by omega)).symm,rfl⟩
   |false=>
    go_wp2
    go_round
    case rel=>
     refine⟨k+1,by omega,by go_num,fun j hj hj'=> ?_⟩
     by_cases e:j=k
     ·subst e;exact hq
     ·exact hall.out j (by omega) hj'
    case measure=>simp[intOf];omega
  ·clear hs
   go_wp2
   go_ret
   refine⟨ret_int (idxOf_miss fun x hx=> ?_).symm,rfl⟩
   obtain⟨j,hj,rfl⟩:=List.getElem_of_mem hx
   exact hall.out j (by omega) hj
set_option maxHeartbeats 400000 in
theorem containsI_any (y:Int) (v:Value) (xs:List (Int)) (w:World) (hs:Sl intR w v xs):
 Calls Tryz.prog 151 #[v,.int .i64 y] w fun e w'=>e=.returned (.bool (xs.any fun x=>y==x))∧w=w':=by
 have C:=Lib.hid (indexI_any y v xs w hs)
 clear hs
 have h1:=Lib.hid (idxOf_any (p:=fun x=>y==x) (xs:=xs))
 generalize idxOf (fun x=>y==x) xs=r at C h1
 go_enter Tryz.func151,Tryz.ntmps151
 go_wp2_with (go_at_call 186;refine C.out.mono ?_;rintro e w' ⟨rfl,rfl⟩)
 go_ret
 exact⟨ret_bool h1.out,rfl⟩
end Go.Proofs.YtlckmjiioohcmaaGreatDoor
