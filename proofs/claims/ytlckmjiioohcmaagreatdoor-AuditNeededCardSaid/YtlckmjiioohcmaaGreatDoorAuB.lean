/-
  Walks of the audit reader's methods valid and late. Conditions: as each theorem says.
-/
import Derived.Test.YtlckmjiioohcmaaGreatDoorAuA
import Derived.Deep.RegionHeld3
namespace Go.Proofs.YtlckmjiioohcmaaGreatDoor
open Go.RowKit
def validA (seats:List Se) (t:Tk):Bool:=match seats[t.seat.toNat]? with
 |some x=>x.sold&&(t.owner==x.owner&&t.serial==x.serial&&t.epoch==x.epoch)
 |none=>false
set_option maxHeartbeats 1000000 in
theorem valid_any (g:Nat) (t:Tk) (A:Option Addr) (c:Nat) (seats:List Se) (W:World) (h0:W.cell? ⟨g,14,none⟩=some (.int .u32 t.seat)) (h1:W.cell? ⟨g,15,none⟩=some (.int .u32 t.owner)) (h2:W.cell? ⟨g,16,none⟩=some (.int .u64 t.serial)) (h3:W.cell? ⟨g,17,none⟩=some (.int .u64 t.epoch))
 (h4:W.cell? ⟨g,5,none⟩=some (.slice A seats.length c)) (hs:Sl seR W (.slice A seats.length c) seats) (hb:U32 t.seat):
 Calls Tryz.prog 116 #[.pointer (some ⟨g,0,none⟩)] W fun e w'=>e=.returned (.bool (validA seats t))∧Below W.heap.size W w':=by
 obtain⟨ts,ow,se,ep⟩:=t
 dsimp only at h0 h1 h2 h3 hb⊢
 unfold U32 at hb
 have hg:=World.block_lt_of_cell? _ _ h0
 obtain⟨k,hk⟩:=Int.eq_ofNat_of_zero_le hb.1
 subst hk
 by_cases hlt:k<seats.length
 ·obtain⟨b,off,rfl,hbl,e0,e1,e2,e3,e4,e5,_⟩:=hs.atE hlt
  have hT:=Lib.hid (show validA seats ⟨k,ow,se,ep⟩=(seats[k].sold&&(ow==seats[k].owner&&se==seats[k].serial&&ep==seats[k].epoch)) by simp[validA,List.getElem?_eq_getElem hlt])
  generalize validA seats ⟨k,ow,se,ep⟩=V at hT⊢
  generalize seats[k]=x at e0 e1 e2 e3 e4 e5 hT
  have hk0:(0:Int)≤(k:Int):=by omega
  have hk1:(k:Int)<(seats.length:Int):=by omega
  clear hs
  go_enter Tryz.func116,Tryz.ntmps116
  go_wp2
  go_quiet (fail)
  refine at_world (fun W1=>Below W.heap.size W W1∧Cells W1 W.heap.size [.int .u32 (k:Int),.int .u32 ow,.int .u64 se,.int .u64 ep])
   ⟨bdN (ba _ _) _,(Cells.new _ _ _).drewN _⟩ fun W1 ⟨hb1,k1⟩=> ?_
  have HB1:=Lib.hid hb1
  have KK:=Lib.hid k1
  have u5:=cell_later hb1 h4
  have d0:=cell_later hb1 e0
  have d1:=cell_later hb1 e1
  have d2:=cell_later hb1 e2
  have d3:=cell_later hb1 e3
  have d4:=cell_later hb1 e4
  have d5:=cell_later hb1 e5
  have t0:=k1.c 0 _ rfl
  have t1:=k1.c 1 _ rfl
  have t2:=k1.c 2 _ rfl
  have t3:=k1.c 3 _ rfl
  have z0:=k1.lt
  have z1:b<W1.heap.size:=Nat.lt_of_lt_of_le hbl hb1.size
  have z2:g<W1.heap.size:=Nat.lt_of_lt_of_le hg hb1.size
  clear hb1 k1 h0 h1 h2 h3 h4 e0 e1 e2 e3 e4 e5 hg hbl
  go_wp2_with fail
  go_region_held3 (fun w=>w.cell? ⟨g,5,none⟩=some (.slice (some ⟨b,off,none⟩) seats.length c)∧w.cell? ⟨W.heap.size,0,none⟩=some (.int .u32 (k:Int))∧w.cell? ⟨b,off+k*6,none⟩=some (.bool x.sold)∧w.cell? ⟨b,off+k*6+1,none⟩=some (.bool x.held)∧w.cell? ⟨b,off+k*6+2,none⟩=some (.int .u32 x.owner)∧w.cell? ⟨b,off+k*6+3,none⟩=some (.int .i64 x.till)∧w.cell? ⟨b,off+k*6+4,none⟩=some (.int .u64 x.serial)∧w.cell? ⟨b,off+k*6+5,none⟩=some (.int .u64 x.epoch))
   (exact⟨by first|assumption|go_simp,by first|assumption|go_simp,by first|assumption|go_simp,by first|assumption|go_simp,by first|assumption|go_simp,by first|assumption|go_simp,by first|assumption|go_simp,by first|assumption|go_simp⟩)
   (first|fail)
  clear d0 d1 d2 d3 d4 d5 u5 t0 t1 t2 t3
  have hB:=Lib.hid (bdd (bal (o:=.cells #[.bool x.sold,.bool x.held,.int .u32 x.owner,.int .i64 x.till,.int .u64 x.serial,.int .u64 x.epoch] 107) HB1.out))
  refine at_world (fun w=>Below W.heap.size W w∧Cells w W.heap.size [.int .u32 (k:Int),.int .u32 ow,.int .u64 se,.int .u64 ep]∧Cells w W1.heap.size [.bool x.sold,.bool x.held,.int .u32 x.owner,.int .i64 x.till,.int .u64 x.serial,.int .u64 x.epoch])
   ⟨hB.out,(KK.out.alloc _).drew,(Cells.new _ _ _).drew⟩ fun W2 ⟨hb2,k2,s2⟩=> ?_
  have t0:=k2.c 0 _ rfl
  have t1:=k2.c 1 _ rfl
  have t2:=k2.c 2 _ rfl
  have t3:=k2.c 3 _ rfl
  have d0:=s2.c 0 _ rfl
  have d2:=s2.c 2 _ rfl
  have d4:=s2.c 4 _ rfl
  have d5:=s2.c 5 _ rfl
  have HB2:=Lib.hid hb2
  clear hb2 k2 s2 hB KK HB1
  obtain⟨so,he,ow2,ti,se2,ep2⟩:=x
  simp only at d0 d2 d4 d5 hT
  cases so with
  |false=>
   go_wp2_with fail
   go_ret
   exact⟨ret_bool (by rw[hT.out];rfl),HB2.out⟩
  |true=>
   by_cases q1:ow=ow2
   ·by_cases q2:se=se2
    ·by_cases q3:ep=ep2
     ·subst q1 q2 q3
      obtain rfl:V=true:=by rw[hT.out];simp
      go_wp2_with fail
      go_ret
      exact⟨rfl,HB2.out⟩
     ·subst q1 q2
      have t:(ep==ep2)=false:=by simpa using q3
      obtain rfl:V=false:=by rw[hT.out];simp[t]
      go_wp2_with fail
      go_ret
      exact⟨rfl,HB2.out⟩
    ·subst q1
     have t:(se==se2)=false:=by simpa using q2
     obtain rfl:V=false:=by rw[hT.out];simp[t]
     go_wp2_with fail
     go_ret
     exact⟨rfl,HB2.out⟩
   ·have t:(ow==ow2)=false:=by simpa using q1
    obtain rfl:V=false:=by rw[hT.out];simp[t]
    go_wp2_with fail
    go_ret
    exact⟨rfl,HB2.out⟩
 ·have hT:=Lib.hid (show validA seats ⟨k,ow,se,ep⟩=false by simp[validA,List.getElem?_eq_none (Nat.le_of_not_lt hlt)])
  have hk1:(seats.length:Int)≤(k:Int):=by omega
  clear hs
  go_enter Tryz.func116,Tryz.ntmps116
  go_wp2
  go_quiet (fail)
  go_wp2
  go_ret
  exact⟨ret_bool hT.out.symm,bdN (ba _ _) _⟩
end Go.Proofs.YtlckmjiioohcmaaGreatDoor
