/-
  The data of layer 32 (audit); walks of the reader's small methods. Conditions: as each theorem says.
-/
import Derived.Test.YtlckmjiioohcmaaGreatDoorVnI
import Derived.Test.YtlckmjiioohcmaaGreatDoorVnJ
namespace Go.Proofs.YtlckmjiioohcmaaGreatDoor
open Go.RowKit
structure Se where
 sold:Bool
 held:Bool
 owner:Int
 till:Int
 serial:Int
 epoch:Int
deriving DecidableEq
structure Au where
 ve:Ve
 now:Int
 seats:List Se
 waiting:List Int
def seR:Rep Se where
 size:=6
 is _ cs x:=cs=[.bool x.sold,.bool x.held,.int .u32 x.owner,.int .i64 x.till,.int .u64 x.serial,.int .u64 x.epoch]∧U32 x.owner∧Bd x.till∧U64 x.serial∧U64 x.epoch
 len h:=by rw[h.1];rfl
 one h:=by rw[h.1];simp[Value.oneCell']
 up _ h:=h
theorem Sl.atE {w:World} {A:Option Addr} {n c k:Nat} {xs:List Se} (h:Sl seR w (.slice A n c) xs) (hk:k<xs.length):
 ∃b off,A=some ⟨b,off,.none⟩∧b<w.heap.size∧w.cell? ⟨b,off+k*6,.none⟩=some (.bool xs[k].sold)∧w.cell? ⟨b,off+k*6+1,.none⟩=some (.bool xs[k].held)∧w.cell? ⟨b,off+k*6+2,.none⟩=some (.int .u32 xs[k].owner)∧
  w.cell? ⟨b,off+k*6+3,.none⟩=some (.int .i64 xs[k].till)∧w.cell? ⟨b,off+k*6+4,.none⟩=some (.int .u64 xs[k].serial)∧w.cell? ⟨b,off+k*6+5,.none⟩=some (.int .u64 xs[k].epoch)∧
  U32 xs[k].owner∧Bd xs[k].till∧U64 xs[k].serial∧U64 xs[k].epoch:=by
 obtain⟨b,off,cs,rfl,hb,⟨rfl,hx⟩,h2⟩:=h.at_ hk
 exact⟨b,off,rfl,hb,h2 0 _ rfl,h2 1 _ rfl,h2 2 _ rfl,h2 3 _ rfl,h2 4 _ rfl,h2 5 _ rfl,hx⟩
def seatA (op:MOp):Int:=if op.kind=2∨op.kind=4∨op.kind=5∨op.kind=8 then op.seat else if op.kind=6∨op.kind=7∨op.kind=9 then op.tk.seat else-1
set_option maxHeartbeats 1000000 in
theorem is_any (g:Nat) (kind:Int) (v:Value) (ks:List Int) (W:World) (hk:W.cell? ⟨g,7,none⟩=some (.int .i64 kind)) (hs:Sl intR W v ks):
 Calls Tryz.prog 115 #[.pointer (some ⟨g,0,none⟩),v] W fun e w'=>e=.returned (.bool (isB ks kind))∧W=w':=by
 have C:=Lib.hid (containsI_any kind v ks W hs)
 have hT:=Lib.hid (show isB ks kind=ks.any (fun x=>kind==x) from rfl)
 generalize ks.any (fun x=>kind==x)=b at C hT
 go_enter Tryz.func115,Tryz.ntmps115
 go_wp2_with (go_at_call 151;refine C.out.mono ?_;rintro e w' ⟨rfl,rfl⟩)
 go_ret
 exact⟨ret_bool hT.out.symm,rfl⟩
set_option maxHeartbeats 1000000 in
theorem seat_any (g:Nat) (op:MOp) (W:World) (hk:W.cell? ⟨g,7,none⟩=some (.int .i64 op.kind)) (hs:W.cell? ⟨g,10,none⟩=some (.int .i64 op.seat)) (ht:W.cell? ⟨g,14,none⟩=some (.int .u32 op.tk.seat)) (hb:U32 op.tk.seat):
 Calls Tryz.prog 119 #[.pointer (some ⟨g,0,none⟩)] W fun e w'=>e=.returned (.int .i64 (seatA op))∧W=w':=by
 have hT:=Lib.hid (show seatA op=if op.kind=2∨op.kind=4∨op.kind=5∨op.kind=8 then op.seat else if op.kind=6∨op.kind=7∨op.kind=9 then op.tk.seat else-1 from rfl)
 generalize seatA op=S at hT⊢
 generalize op.kind=k at hk hT
 generalize op.seat=s at hs hT
 generalize op.tk.seat=t at ht hb hT
 unfold U32 at hb
 have h8:k=2∨k=4∨k=5∨k=8∨k=6∨k=7∨k=9∨(k≠2∧k≠4∧k≠5∧k≠8∧k≠6∧k≠7∧k≠9):=by omega
 rcases h8 with rfl|rfl|rfl|rfl|rfl|rfl|rfl|⟨h1,h2,h3,h4,h5,h6,h7⟩
 ·go_enter Tryz.func119,Tryz.ntmps119
  go_wp2
  go_ret
  exact⟨ret_int (by rw[hT.out];simp),rfl⟩
 ·go_enter Tryz.func119,Tryz.ntmps119
  go_wp2
  go_ret
  exact⟨ret_int (by rw[hT.out];simp),rfl⟩
 ·go_enter Tryz.func119,Tryz.ntmps119
  go_wp2
  go_ret
  exact⟨ret_int (by rw[hT.out];simp),rfl⟩
 ·go_enter Tryz.func119,Tryz.ntmps119
  go_wp2
  go_ret
  exact⟨ret_int (by rw[hT.out];simp),rfl⟩
 ·go_enter Tryz.func119,Tryz.ntmps119
  go_wp2
  go_ret
  exact⟨ret_int (by rw[hT.out];simp),rfl⟩
 ·go_enter Tryz.func119,Tryz.ntmps119
  go_wp2
  go_ret
  exact⟨ret_int (by rw[hT.out];simp),rfl⟩
 ·go_enter Tryz.func119,Tryz.ntmps119
  go_wp2
  go_ret
  exact⟨ret_int (by rw[hT.out];simp),rfl⟩
 have t1:(k==2)=false:=by simpa using h1
 have t2:(k==4)=false:=by simpa using h2
 have t3:(k==5)=false:=by simpa using h3
 have t4:(k==8)=false:=by simpa using h4
 have t5:(k==6)=false:=by simpa using h5
 have t6:(k==7)=false:=by simpa using h6
 have t7:(k==9)=false:=by simpa using h7
 obtain rfl:S= -1:=by rw[hT.out,if_neg (by omega),if_neg (by omega)]
 clear h1 h2 h3 h4 h5 h6 h7
 go_enter Tryz.func119,Tryz.ntmps119
 go_wp2
 go_ret
 exact⟨rfl,rfl⟩
end Go.Proofs.YtlckmjiioohcmaaGreatDoor
