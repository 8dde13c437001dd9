/-
  The data of layer 16 (seats); walks of seats.Check, state, time, mine, open. Conditions: as each theorem says.
  Walks of seats.Ticket, Valid, Release, issue, Buy, Transfer, Refund, Revoke. Conditions: as each theorem says.
  Walks of cmp.Or at two errors, times.Passed. Conditions: as each theorem says.
-/
import Derived.Test.YtlckmjiioohcmaaGreatDoorVnI
import Derived.Deep.CutRange
import Derived.Deep.RegionHeld3
namespace Go.Proofs.YtlckmjiioohcmaaGreatDoor
open Go.RowKit
structure Sx where
 state:Int
 owner:Int
 till:Int
 serial:Int
 epoch:Int
deriving DecidableEq
def SxOk (x:Sx):Prop:=Bd x.state∧U32 x.owner∧Bd x.till∧U64 x.serial∧U64 x.epoch
def sxCells (x:Sx):List Value:=[.int .i64 x.state,.int .u32 x.owner,.int .i64 x.till,.int .u64 x.serial,.int .u64 x.epoch]
def sxV (x:Sx):Value:=.agg #[.int .i64 x.state,.int .u32 x.owner,.int .i64 x.till,.int .u64 x.serial,.int .u64 x.epoch]
def sxR:Rep Sx where
 size:=5
 is _ cs x:=cs=sxCells x∧SxOk x
 len h:=by rw[h.1];rfl
 one h:=by rw[h.1];simp[sxCells,Value.oneCell']
 up _ h:=h
theorem sxR_flat:sxR.flat:=fun _ _ _ _ h=>h
def sxCheck (x:Sx):Int:=if x.state=1 then(if x.till<0 then 6 else 0) else if x.state=0 then(if x.owner≠0 then 6 else if x.till≠0 then 6 else 0) else if x.state=2 then(if x.till≠0 then 6 else 0) else 6
def sxState (x:Sx) (want:Int):Int:=if sxCheck x≠0 then sxCheck x else if x.state≠want then 15 else 0
def sxTime (x:Sx) (t:Int):Int:=if sxCheck x≠0 then sxCheck x else if t<0 then 7 else 0
def sxMine (x:Sx) (owner:Int):Int:=if sxState x 1≠0 then sxState x 1 else if x.owner≠owner then 14 else 0
def sxOpen (x:Sx):Sx:=⟨0,0,0,x.serial,x.epoch⟩
set_option maxHeartbeats 1000000 in
theorem sxCheck_any (x:Sx) (w:World):Calls Tryz.prog 60 #[sxV x] w fun e w'=>e=.returned (.int .i64 (sxCheck x))∧Below w.heap.size w w':=by
 have hT:=Lib.hid (show sxCheck x=if x.state=1 then(if x.till<0 then 6 else 0) else if x.state=0 then(if x.owner≠0 then 6 else if x.till≠0 then 6 else 0) else if x.state=2 then(if x.till≠0 then 6 else 0) else 6 from rfl)
 unfold sxV
 generalize sxCheck x=M at hT⊢
 obtain⟨st,ow,ti,se,ep⟩:=x
 simp only at hT⊢
 by_cases h1:st=1
 ·subst h1
  by_cases h:ti<0
  ·obtain rfl:M=6:=by rw[hT.out];simp[h]
   go_enter Tryz.func60,Tryz.ntmps60
   go_wp2
   go_ret
   exact⟨rfl,ba _ _⟩
  ·obtain rfl:M=0:=by rw[hT.out];simp[h]
   go_enter Tryz.func60,Tryz.ntmps60
   go_wp2
   go_ret
   exact⟨rfl,ba _ _⟩
 ·by_cases h0:st=0
  ·subst h0
   by_cases h:ow=0
   ·subst h
    by_cases h:ti=0
    ·subst h
     obtain rfl:M=0:=by rw[hT.out];simp
     go_enter Tryz.func60,Tryz.ntmps60
     go_wp2
     go_ret
     exact⟨rfl,ba _ _⟩
    ·obtain rfl:M=6:=by rw[hT.out];simp[h]
     have t:(ti !=0)=true:=by simpa using h
     clear h
     go_enter Tryz.func60,Tryz.ntmps60
     go_wp2
     go_ret
     exact⟨rfl,ba _ _⟩
   ·obtain rfl:M=6:=by rw[hT.out];simp[h]
    have t:(ow !=0)=true:=by simpa using h
    clear h
    go_enter Tryz.func60,Tryz.ntmps60
    go_wp2
    go_ret
    exact⟨rfl,ba _ _⟩
  ·have t1:(st==1)=false:=by simpa using h1
   have t0:(st==0)=false:=by simpa using h0
   by_cases h2:st=2
   ·subst h2
    clear t0 t1 h0 h1
    by_cases h:ti=0
    ·subst h
     obtain rfl:M=0:=by rw[hT.out];simp
     go_enter Tryz.func60,Tryz.ntmps60
     go_wp2
     go_ret
     exact⟨rfl,ba _ _⟩
    ·obtain rfl:M=6:=by rw[hT.out];simp[h]
     have t:(ti !=0)=true:=by simpa using h
     clear h
     go_enter Tryz.func60,Tryz.ntmps60
     go_wp2
     go_ret
     exact⟨rfl,ba _ _⟩
   ·obtain rfl:M=6:=by rw[hT.out];simp[h0,h1,h2]
    have t2:(st==2)=false:=by simpa using h2
    clear h0 h1 h2
    go_enter Tryz.func60,Tryz.ntmps60
    go_wp2
    go_ret
    exact⟨rfl,ba _ _⟩
set_option maxHeartbeats 1000000 in
theorem sxState_any (x:Sx) (want:Int) (w:World):Calls Tryz.prog 172 #[sxV x,.int .i64 want] w fun e w'=>e=.returned (.int .i64 (sxState x want))∧Below w.heap.size w w':=by
 have C:=Lib.hid (sxCheck_any x)
 have hT:=Lib.hid (show sxState x want=if sxCheck x≠0 then sxCheck x else if x.state≠want then 15 else 0 from rfl)
 unfold sxV at C⊢
 generalize sxState x want=M at hT⊢
 generalize sxCheck x=E at C hT
 obtain⟨st,ow,ti,se,ep⟩:=x
 simp only at C hT⊢
 by_cases h:E=0
 ·subst h
  by_cases h1:st=want
  ·subst h1
   obtain rfl:M=0:=by rw[hT.out];simp
   go_enter Tryz.func172,Tryz.ntmps172
   go_wp2_with fail
   refine(C.out _).mono ?_
   rintro e w1 ⟨rfl,hb1⟩
   have k:=(Cells.new w [.int .i64 st,.int .u32 ow,.int .i64 ti,.int .u64 se,.int .u64 ep] 81).later hb1
   have c0:=k.c 0 _ rfl
   have z:=k.lt
   have hB:=Lib.hid ((ba w _).trans (hb1.mono (ba w _).size))
   go_wp2_with fail
   go_ret
   exact⟨rfl,hB.out⟩
  ·obtain rfl:M=15:=by rw[hT.out];simp[h1]
   have t:(st !=want)=true:=by simpa using h1
   go_enter Tryz.func172,Tryz.ntmps172
   go_wp2_with fail
   refine(C.out _).mono ?_
   rintro e w1 ⟨rfl,hb1⟩
   have k:=(Cells.new w [.int .i64 st,.int .u32 ow,.int .i64 ti,.int .u64 se,.int .u64 ep] 81).later hb1
   have c0:=k.c 0 _ rfl
   have z:=k.lt
   have hB:=Lib.hid ((ba w _).trans (hb1.mono (ba w _).size))
   go_wp2_with fail
   go_ret
   exact⟨rfl,hB.out⟩
 ·obtain rfl:M=E:=by rw[hT.out];simp[h]
  have t:(M !=0)=true:=by simpa using h
  go_enter Tryz.func172,Tryz.ntmps172
  go_wp2_with fail
  refine(C.out _).mono ?_
  rintro e w1 ⟨rfl,hb1⟩
  have hB:=Lib.hid ((ba w _).trans (hb1.mono (ba w _).size))
  go_wp2_with fail
  go_ret
  exact⟨rfl,hB.out⟩
set_option maxHeartbeats 1000000 in
theorem sxTime_any (x:Sx) (t0:Int) (w:World):Calls Tryz.prog 171 #[sxV x,.int .i64 t0] w fun e w'=>e=.returned (.int .i64 (sxTime x t0))∧Below w.heap.size w w':=by
 have C:=Lib.hid (sxCheck_any x)
 have hT:=Lib.hid (show sxTime x t0=if sxCheck x≠0 then sxCheck x else if t0<0 then 7 else 0 from rfl)
 unfold sxV at C⊢
 generalize sxTime x t0=M at hT⊢
 generalize sxCheck x=E at C hT
 obtain⟨st,ow,ti,se,ep⟩:=x
 simp only at C hT⊢
 by_cases h:E=0
 ·subst h
  by_cases h1:0≤t0
  ·obtain rfl:M=0:=by rw[hT.out];simp;omega
   replace h1:¬t0<0:=by omega
   go_enter Tryz.func171,Tryz.ntmps171
   go_wp2_with fail
   refine(C.out _).mono ?_
   rintro e w1 ⟨rfl,hb1⟩
   have k:=(Cells.new w [.int .i64 st,.int .u32 ow,.int .i64 ti,.int .u64 se,.int .u64 ep] 81).later hb1
   have c0:=k.c 0 _ rfl
   have z:=k.lt
   have hB:=Lib.hid ((ba w _).trans (hb1.mono (ba w _).size))
   go_wp2_with fail
   go_ret
   exact⟨rfl,hB.out⟩
  ·replace h1:t0<0:=by omega
   obtain rfl:M=7:=by rw[hT.out];simp[h1]
   go_enter Tryz.func171,Tryz.ntmps171
   go_wp2_with fail
   refine(C.out _).mono ?_
   rintro e w1 ⟨rfl,hb1⟩
   have k:=(Cells.new w [.int .i64 st,.int .u32 ow,.int .i64 ti,.int .u64 se,.int .u64 ep] 81).later hb1
   have c0:=k.c 0 _ rfl
   have z:=k.lt
   have hB:=Lib.hid ((ba w _).trans (hb1.mono (ba w _).size))
   go_wp2_with fail
   go_ret
   exact⟨rfl,hB.out⟩
 ·obtain rfl:M=E:=by rw[hT.out];simp[h]
  have t:(M !=0)=true:=by simpa using h
  go_enter Tryz.func171,Tryz.ntmps171
  go_wp2_with fail
  refine(C.out _).mono ?_
  rintro e w1 ⟨rfl,hb1⟩
  have hB:=Lib.hid ((ba w _).trans (hb1.mono (ba w _).size))
  go_wp2_with fail
  go_ret
  exact⟨rfl,hB.out⟩
set_option maxHeartbeats 1000000 in
theorem sxMine_any (x:Sx) (owner:Int) (w:World):Calls Tryz.prog 177 #[sxV x,.int .u32 owner] w fun e w'=>e=.returned (.int .i64 (sxMine x owner))∧Below w.heap.size w w':=by
 have C:=Lib.hid (sxState_any x 1)
 have hT:=Lib.hid (show sxMine x owner=if sxState x 1≠0 then sxState x 1 else if x.owner≠owner then 14 else 0 from rfl)
 unfold sxV at C⊢
 generalize sxMine x owner=M at hT⊢
 generalize sxState x 1=E at C hT
 obtain⟨st,ow,ti,se,ep⟩:=x
 simp only at C hT⊢
 by_cases h:E=0
 ·subst h
  by_cases h1:ow=owner
  ·subst h1
   obtain rfl:M=0:=by rw[hT.out];simp
   go_enter Tryz.func177,Tryz.ntmps177
   go_wp2_with fail
   refine(C.out _).mono ?_
   rintro e w1 ⟨rfl,hb1⟩
   have k:=(Cells.new w [.int .i64 st,.int .u32 ow,.int .i64 ti,.int .u64 se,.int .u64 ep] 81).later hb1
   have c0:=k.c 1 _ rfl
   have z:=k.lt
   have hB:=Lib.hid ((ba w _).trans (hb1.mono (ba w _).size))
   go_wp2_with fail
   go_ret
   exact⟨rfl,hB.out⟩
  ·obtain rfl:M=14:=by rw[hT.out];simp[h1]
   have t:(ow !=owner)=true:=by simpa using h1
   go_enter Tryz.func177,Tryz.ntmps177
   go_wp2_with fail
   refine(C.out _).mono ?_
   rintro e w1 ⟨rfl,hb1⟩
   have k:=(Cells.new w [.int .i64 st,.int .u32 ow,.int .i64 ti,.int .u64 se,.int .u64 ep] 81).later hb1
   have c0:=k.c 1 _ rfl
   have z:=k.lt
   have hB:=Lib.hid ((ba w _).trans (hb1.mono (ba w _).size))
   go_wp2_with fail
   go_ret
   exact⟨rfl,hB.out⟩
 ·obtain rfl:M=E:=by rw[hT.out];simp[h]
  have t:(M !=0)=true:=by simpa using h
  go_enter Tryz.func177,Tryz.ntmps177
  go_wp2_with fail
  refine(C.out _).mono ?_
  rintro e w1 ⟨rfl,hb1⟩
  have hB:=Lib.hid ((ba w _).trans (hb1.mono (ba w _).size))
  go_wp2_with fail
  go_ret
  exact⟨rfl,hB.out⟩
set_option maxHeartbeats 1000000 in
theorem sxOpen_any (x:Sx) (w:World):Calls Tryz.prog 178 #[sxV x] w fun e w'=>e=.returned (sxV (sxOpen x))∧Below w.heap.size w w':=by
 obtain⟨st,ow,ti,se,ep⟩:=x
 unfold sxV sxOpen
 dsimp only
 go_enter Tryz.func178,Tryz.ntmps178
 go_wp2_with fail
 have b:=BoxN.new (w.alloc (.cells #[.int .i64 st,.int .u32 ow,.int .i64 ti,.int .u64 se,.int .u64 ep] 81)) 81 #[.int .i64 0,.int .u32 0,.int .i64 0,.int .u64 se,.int .u64 ep]
 rw[World.size_alloc] at b
 have gg:=b.x5
 exact bodyPost_ret (v:=.agg #[.int .i64 0,.int .u32 0,.int .i64 0,.int .u64 se,.int .u64 ep]) (by simp[results,Tryz.results178,go_sem,gg]) rfl ⟨rfl,bal (ba _ _)⟩
end Go.Proofs.YtlckmjiioohcmaaGreatDoor
namespace Go.Proofs.YtlckmjiioohcmaaGreatDoor
open Go.RowKit
def sxTicket (x:Sx) (seat:Int):Tk×Int:=if sxState x 2≠0 then(noTk,sxState x 2) else(⟨seat,x.owner,x.serial,x.epoch⟩,0)
def sxValid (x:Sx) (t:Tk):Int:=if sxState x 2≠0 then sxState x 2 else if t.owner=x.owner∧t.serial=x.serial∧t.epoch=x.epoch then 0 else 16
def sxRelease (x:Sx) (owner:Int):Sx×Int:=if sxMine x owner≠0 then(x,sxMine x owner) else(sxOpen x,0)
def sxIssue (x:Sx) (owner:Int):Sx×Int:=if x.serial=18446744073709551615 then(x,17) else(⟨2,owner,0,x.serial+1,x.epoch⟩,0)
def sxBuy (x:Sx) (owner:Int):Sx×Int:=if sxMine x owner≠0 then(x,sxMine x owner) else sxIssue x owner
def sxTransfer (x:Sx) (t:Tk) (too:Int):Sx×Int:=if sxValid x t≠0 then(x,sxValid x t) else sxIssue x too
def sxRefund (x:Sx) (t:Tk):Sx×Int:=if sxValid x t≠0 then(x,sxValid x t) else(sxOpen x,0)
def sxRevoke (x:Sx):Sx×Int:=if sxState x 2≠0 then(x,sxState x 2) else if x.epoch=18446744073709551615 then(x,17) else(sxOpen {x with epoch:=x.epoch+1},0)
set_option maxHeartbeats 2000000 in
theorem sxTicket_any (x:Sx) (seat:Int) (w:World):Calls Tryz.prog 179 #[sxV x,.int .u32 seat] w fun e w'=>e=.returned (.tuple #[tkV (sxTicket x seat).1,.int .i64 (sxTicket x seat).2])∧Below w.heap.size w w':=by
 have C:=Lib.hid (sxState_any x 2)
 have hT:=Lib.hid (show sxTicket x seat=if sxState x 2≠0 then(noTk,sxState x 2) else(⟨seat,x.owner,x.serial,x.epoch⟩,0) from rfl)
 unfold sxV at C
 unfold sxV tkV
 generalize sxTicket x seat=M at hT⊢
 generalize sxState x 2=E at C hT
 obtain⟨st,ow,ti,se,ep⟩:=x
 simp only at C hT⊢
 by_cases h:E=0
 ·subst h
  obtain rfl:M=(⟨seat,ow,se,ep⟩,0):=by rw[hT.out];simp
  clear hT
  go_enter Tryz.func179,Tryz.ntmps179
  go_wp2_with fail
  refine(C.out _).mono ?_
  rintro e w1 ⟨rfl,hb1⟩
  have hB1:=Lib.hid ((bal (ba w _)).trans (hb1.mono (bal (ba w _)).size))
  have b01:=((BoxN.new w 81 #[.int .i64 st,.int .u32 ow,.int .i64 ti,.int .u64 se,.int .u64 ep]).alloc (.cells #[.int .u32 0,.int .u32 0,.int .u64 0,.int .u64 0] 44)).later hb1
  have b11:=(BoxN.new (w.alloc (.cells #[.int .i64 st,.int .u32 ow,.int .i64 ti,.int .u64 se,.int .u64 ep] 81)) 44 #[.int .u32 0,.int .u32 0,.int .u64 0,.int .u64 0]).later hb1
  simp only[World.size_alloc] at b11
  have H01:=Lib.hid b01
  have H11:=Lib.hid b11
  clear b01 b11
  clear hb1
  obtain⟨c00,f00,c01,f01,c02,f02,c03,f03,c04,f04,z0⟩:=H01.out.x5
  obtain⟨c10,f10,c11,f11,c12,f12,c13,f13,z1⟩:=H11.out.x4
  go_wp2_with fail
  have b':=((((H11.out.set 0 (.int .u32 seat)).set 1 (.int .u32 ow)).set 2 (.int .u64 se)).set 3 (.int .u64 ep))
  have hB':=((((hB1.out.setCell (p:=⟨w.heap.size+1,0,none⟩) (by dsimp only;omega) (.int .u32 seat)).setCell (p:=⟨w.heap.size+1,1,none⟩) (by dsimp only;omega) (.int .u32 ow)).setCell (p:=⟨w.heap.size+1,2,none⟩) (by dsimp only;omega) (.int .u64 se)).setCell (p:=⟨w.heap.size+1,3,none⟩) (by dsimp only;omega) (.int .u64 ep))
  have g0:=b'.cell 0 (.int .u32 seat) rfl
  have g1:=b'.cell 1 (.int .u32 ow) rfl
  have g2:=b'.cell 2 (.int .u64 se) rfl
  have g3:=b'.cell 3 (.int .u64 ep) rfl
  exact bodyPost_ret (v:=.tuple #[.agg #[.int .u32 seat,.int .u32 ow,.int .u64 se,.int .u64 ep],.int .i64 0]) (by simp[results,Tryz.results179,go_sem,g0,g1,g2,g3]) rfl ⟨rfl,hB'⟩
 ·obtain rfl:M=(noTk,E):=by rw[hT.out];simp[h]
  have t:(E !=0)=true:=by simpa using h
  unfold noTk
  clear hT h
  go_enter Tryz.func179,Tryz.ntmps179
  go_wp2_with fail
  refine(C.out _).mono ?_
  rintro e w1 ⟨rfl,hb1⟩
  have hB1:=Lib.hid ((bal (ba w _)).trans (hb1.mono (bal (ba w _)).size))
  have b01:=((BoxN.new w 81 #[.int .i64 st,.int .u32 ow,.int .i64 ti,.int .u64 se,.int .u64 ep]).alloc (.cells #[.int .u32 0,.int .u32 0,.int .u64 0,.int .u64 0] 44)).later hb1
  have b11:=(BoxN.new (w.alloc (.cells #[.int .i64 st,.int .u32 ow,.int .i64 ti,.int .u64 se,.int .u64 ep] 81)) 44 #[.int .u32 0,.int .u32 0,.int .u64 0,.int .u64 0]).later hb1
  simp only[World.size_alloc] at b11
  have H01:=Lib.hid b01
  have H11:=Lib.hid b11
  clear b01 b11
  clear hb1
  obtain⟨c00,f00,c01,f01,c02,f02,c03,f03,c04,f04,z0⟩:=H01.out.x5
  obtain⟨c10,f10,c11,f11,c12,f12,c13,f13,z1⟩:=H11.out.x4
  go_wp2_with fail
  have b':=((((H11.out.set 0 (.int .u32 0)).set 1 (.int .u32 0)).set 2 (.int .u64 0)).set 3 (.int .u64 0))
  have hB':=((((hB1.out.setCell (p:=⟨w.heap.size+1,0,none⟩) (by dsimp only;omega) (.int .u32 0)).setCell (p:=⟨w.heap.size+1,1,none⟩) (by dsimp only;omega) (.int .u32 0)).setCell (p:=⟨w.heap.size+1,2,none⟩) (by dsimp only;omega) (.int .u64 0)).setCell (p:=⟨w.heap.size+1,3,none⟩) (by dsimp only;omega) (.int .u64 0))
  have g0:=b'.cell 0 (.int .u32 0) rfl
  have g1:=b'.cell 1 (.int .u32 0) rfl
  have g2:=b'.cell 2 (.int .u64 0) rfl
  have g3:=b'.cell 3 (.int .u64 0) rfl
  exact bodyPost_ret (v:=.tuple #[.agg #[.int .u32 0,.int .u32 0,.int .u64 0,.int .u64 0],.int .i64 E]) (by simp[results,Tryz.results179,go_sem,g0,g1,g2,g3]) rfl ⟨rfl,hB'⟩
set_option maxHeartbeats 2000000 in
theorem sxIssue_any (x:Sx) (owner:Int) (w:World) (hx:SxOk x):Calls Tryz.prog 180 #[sxV x,.int .u32 owner] w fun e w'=>e=.returned (.tuple #[sxV (sxIssue x owner).1,.int .i64 (sxIssue x owner).2])∧Below w.heap.size w w':=by
 have hT:=Lib.hid (show sxIssue x owner=if x.serial=18446744073709551615 then(x,17) else(⟨2,owner,0,x.serial+1,x.epoch⟩,0) from rfl)
 unfold sxV
 generalize sxIssue x owner=M at hT⊢
 obtain⟨st,ow,ti,se,ep⟩:=x
 simp only at hT⊢
 have hU:U64 se:=hx.2.2.2.1
 unfold U64 at hU
 by_cases h:se=18446744073709551615
 ·subst h
  replace hT:=hT.out
  rw[if_pos rfl] at hT
  subst hT
  clear hU hx
  go_enter Tryz.func180,Tryz.ntmps180
  go_wp2_with fail
  have b':=BoxN.new (w.alloc (.cells #[.int .i64 st,.int .u32 ow,.int .i64 ti,.int .u64 18446744073709551615,.int .u64 ep] 81)) 81 #[.int .i64 st,.int .u32 ow,.int .i64 ti,.int .u64 18446744073709551615,.int .u64 ep]
  rw[World.size_alloc] at b'
  have gg:=b'.x5
  exact bodyPost_ret (v:=.tuple #[.agg #[.int .i64 st,.int .u32 ow,.int .i64 ti,.int .u64 18446744073709551615,.int .u64 ep],.int .i64 17]) (by simp[results,Tryz.results180,go_sem,gg]) rfl ⟨rfl,bal (ba _ _)⟩
 ·replace hT:=hT.out
  rw[if_neg h] at hT
  subst hT
  have t:(se==18446744073709551615)=false:=by simpa using h
  have hw:IntKind.u64.wrap (se+1)=se+1:=IntWalk.u64_in _ (by omega)
  clear hx
  go_enter Tryz.func180,Tryz.ntmps180
  go_wp2_with fail
  have b':=BoxN.new (w.alloc (.cells #[.int .i64 st,.int .u32 ow,.int .i64 ti,.int .u64 se,.int .u64 ep] 81)) 81 #[.int .i64 2,.int .u32 owner,.int .i64 0,.int .u64 (se+1),.int .u64 ep]
  rw[World.size_alloc] at b'
  have gg:=b'.x5
  exact bodyPost_ret (v:=.tuple #[.agg #[.int .i64 2,.int .u32 owner,.int .i64 0,.int .u64 (se+1),.int .u64 ep],.int .i64 0]) (by simp[results,Tryz.results180,go_sem,gg]) rfl ⟨rfl,bal (ba _ _)⟩
set_option maxHeartbeats 2000000 in
theorem sxRelease_any (x:Sx) (owner:Int) (w:World):Calls Tryz.prog 131 #[sxV x,.int .u32 owner] w fun e w'=>e=.returned (.tuple #[sxV (sxRelease x owner).1,.int .i64 (sxRelease x owner).2])∧Below w.heap.size w w':=by
 have C:=Lib.hid (sxMine_any x owner)
 have C2:=Lib.hid (sxOpen_any x)
 have hT:=Lib.hid (show sxRelease x owner=if sxMine x owner≠0 then(x,sxMine x owner) else(sxOpen x,0) from rfl)
 unfold sxV at C
 unfold sxV sxOpen at C2
 unfold sxV
 generalize sxRelease x owner=M at hT⊢
 generalize sxMine x owner=E at C hT
 obtain⟨st,ow,ti,se,ep⟩:=x
 simp only[sxOpen] at C C2 hT⊢
 by_cases h:E=0
 ·subst h
  obtain rfl:M=(⟨0,0,0,se,ep⟩,0):=by rw[hT.out];simp
  clear hT
  go_enter Tryz.func131,Tryz.ntmps131
  go_wp2_with fail
  refine(C.out _).mono ?_
  rintro e w1 ⟨rfl,hb1⟩
  have hB1:=Lib.hid ((bal (ba w _)).trans (hb1.mono (bal (ba w _)).size))
  have b01:=((BoxN.new w 81 #[.int .i64 st,.int .u32 ow,.int .i64 ti,.int .u64 se,.int .u64 ep]).alloc (.cells #[.int .i64 0,.int .u32 0,.int .i64 0,.int .u64 0,.int .u64 0] 81)).later hb1
  have b11:=(BoxN.new (w.alloc (.cells #[.int .i64 st,.int .u32 ow,.int .i64 ti,.int .u64 se,.int .u64 ep] 81)) 81 #[.int .i64 0,.int .u32 0,.int .i64 0,.int .u64 0,.int .u64 0]).later hb1
  simp only[World.size_alloc] at b11
  have H01:=Lib.hid b01
  have H11:=Lib.hid b11
  clear b01 b11
  clear hb1
  obtain⟨c00,f00,c01,f01,c02,f02,c03,f03,c04,f04,z0⟩:=H01.out.x5
  obtain⟨c10,f10,c11,f11,c12,f12,c13,f13,c14,f14,z1⟩:=H11.out.x5
  go_wp2_with fail
  refine(C2.out _).mono ?_
  rintro e w2 ⟨rfl,hb2⟩
  have hB2:=Lib.hid (hB1.out.trans (hb2.mono hB1.out.size))
  have b02:=H01.out.later hb2
  have b12:=H11.out.later hb2
  have H02:=Lib.hid b02
  have H12:=Lib.hid b12
  clear b02 b12
  clear hb2
  clear c00 f00 c01 f01 c02 f02 c03 f03 c04 f04 z0 c10 f10 c11 f11 c12 f12 c13 f13 c14 f14 z1
  obtain⟨c00,f00,c01,f01,c02,f02,c03,f03,c04,f04,z0⟩:=H02.out.x5
  obtain⟨c10,f10,c11,f11,c12,f12,c13,f13,c14,f14,z1⟩:=H12.out.x5
  go_wp2_with fail
  have b':=(((((H12.out.set 0 (.int .i64 0)).set 1 (.int .u32 0)).set 2 (.int .i64 0)).set 3 (.int .u64 se)).set 4 (.int .u64 ep))
  have hB':=(((((hB2.out.setCell (p:=⟨w.heap.size+1,0,none⟩) (by dsimp only;omega) (.int .i64 0)).setCell (p:=⟨w.heap.size+1,1,none⟩) (by dsimp only;omega) (.int .u32 0)).setCell (p:=⟨w.heap.size+1,2,none⟩) (by dsimp only;omega) (.int .i64 0)).setCell (p:=⟨w.heap.size+1,3,none⟩) (by dsimp only;omega) (.int .u64 se)).setCell (p:=⟨w.heap.size+1,4,none⟩) (by dsimp only;omega) (.int .u64 ep))
  have gg:=b'.x5
  exact bodyPost_ret (v:=.tuple #[.agg #[.int .i64 0,.int .u32 0,.int .i64 0,.int .u64 se,.int .u64 ep],.int .i64 0]) (by simp[results,Tryz.results131,go_sem,gg]) rfl ⟨rfl,hB'⟩
 ·obtain rfl:M=(⟨st,ow,ti,se,ep⟩,E):=by rw[hT.out];simp[h]
  have t:(E !=0)=true:=by simpa using h
  clear hT h
  go_enter Tryz.func131,Tryz.ntmps131
  go_wp2_with fail
  refine(C.out _).mono ?_
  rintro e w1 ⟨rfl,hb1⟩
  have hB1:=Lib.hid ((bal (ba w _)).trans (hb1.mono (bal (ba w _)).size))
  have b01:=((BoxN.new w 81 #[.int .i64 st,.int .u32 ow,.int .i64 ti,.int .u64 se,.int .u64 ep]).alloc (.cells #[.int .i64 0,.int .u32 0,.int .i64 0,.int .u64 0,.int .u64 0] 81)).later hb1
  have b11:=(BoxN.new (w.alloc (.cells #[.int .i64 st,.int .u32 ow,.int .i64 ti,.int .u64 se,.int .u64 ep] 81)) 81 #[.int .i64 0,.int .u32 0,.int .i64 0,.int .u64 0,.int .u64 0]).later hb1
  simp only[World.size_alloc] at b11
  have H01:=Lib.hid b01
  have H11:=Lib.hid b11
  clear b01 b11
  clear hb1
  obtain⟨c00,f00,c01,f01,c02,f02,c03,f03,c04,f04,z0⟩:=H01.out.x5
  obtain⟨c10,f10,c11,f11,c12,f12,c13,f13,c14,f14,z1⟩:=H11.out.x5
  go_wp2_with fail
  have b':=(((((H11.out.set 0 (.int .i64 st)).set 1 (.int .u32 ow)).set 2 (.int .i64 ti)).set 3 (.int .u64 se)).set 4 (.int .u64 ep))
  have hB':=(((((hB1.out.setCell (p:=⟨w.heap.size+1,0,none⟩) (by dsimp only;omega) (.int .i64 st)).setCell (p:=⟨w.heap.size+1,1,none⟩) (by dsimp only;omega) (.int .u32 ow)).setCell (p:=⟨w.heap.size+1,2,none⟩) (by dsimp only;omega) (.int .i64 ti)).setCell (p:=⟨w.heap.size+1,3,none⟩) (by dsimp only;omega) (.int .u64 se)).setCell (p:=⟨w.heap.size+1,4,none⟩) (by dsimp only;omega) (.int .u64 ep))
  have gg:=b'.x5
  exact bodyPost_ret (v:=.tuple #[.agg #[.int .i64 st,.int .u32 ow,.int .i64 ti,.int .u64 se,.int .u64 ep],.int .i64 E]) (by simp[results,Tryz.results131,go_sem,gg]) rfl ⟨rfl,hB'⟩
set_option maxHeartbeats 2000000 in
theorem sxBuy_any (x:Sx) (owner:Int) (w:World) (hx:SxOk x):Calls Tryz.prog 133 #[sxV x,.int .u32 owner] w fun e w'=>e=.returned (.tuple #[sxV (sxBuy x owner).1,.int .i64 (sxBuy x owner).2])∧Below w.heap.size w w':=by
 have C:=Lib.hid (sxMine_any x owner)
 have C2:=Lib.hid (fun w=>sxIssue_any x owner w hx)
 have hT:=Lib.hid (show sxBuy x owner=if sxMine x owner≠0 then(x,sxMine x owner) else sxIssue x owner from rfl)
 unfold sxV at C
 unfold sxV at C2
 unfold sxV
 generalize sxBuy x owner=M at hT⊢
 generalize sxMine x owner=E at C hT
 generalize sxIssue x owner=I at C2 hT
 clear hx
 obtain⟨st,ow,ti,se,ep⟩:=x
 obtain⟨⟨i0,i1,i2,i3,i4⟩,ie⟩:=I
 simp only at C C2 hT⊢
 by_cases h:E=0
 ·subst h
  obtain rfl:M=(⟨i0,i1,i2,i3,i4⟩,ie):=by rw[hT.out];simp
  clear hT
  go_enter Tryz.func133,Tryz.ntmps133
  go_wp2_with fail
  refine(C.out _).mono ?_
  rintro e w1 ⟨rfl,hb1⟩
  have hB1:=Lib.hid ((bal (ba w _)).trans (hb1.mono (bal (ba w _)).size))
  have b01:=((BoxN.new w 81 #[.int .i64 st,.int .u32 ow,.int .i64 ti,.int .u64 se,.int .u64 ep]).alloc (.cells #[.int .i64 0,.int .u32 0,.int .i64 0,.int .u64 0,.int .u64 0] 81)).later hb1
  have b11:=(BoxN.new (w.alloc (.cells #[.int .i64 st,.int .u32 ow,.int .i64 ti,.int .u64 se,.int .u64 ep] 81)) 81 #[.int .i64 0,.int .u32 0,.int .i64 0,.int .u64 0,.int .u64 0]).later hb1
  simp only[World.size_alloc] at b11
  have H01:=Lib.hid b01
  have H11:=Lib.hid b11
  clear b01 b11
  clear hb1
  obtain⟨c00,f00,c01,f01,c02,f02,c03,f03,c04,f04,z0⟩:=H01.out.x5
  obtain⟨c10,f10,c11,f11,c12,f12,c13,f13,c14,f14,z1⟩:=H11.out.x5
  go_wp2_with fail
  refine(C2.out _).mono ?_
  rintro e w2 ⟨rfl,hb2⟩
  have hB2:=Lib.hid (hB1.out.trans (hb2.mono hB1.out.size))
  have b02:=H01.out.later hb2
  have b12:=H11.out.later hb2
  have H02:=Lib.hid b02
  have H12:=Lib.hid b12
  clear b02 b12
  clear hb2
  clear c00 f00 c01 f01 c02 f02 c03 f03 c04 f04 z0 c10 f10 c11 f11 c12 f12 c13 f13 c14 f14 z1
  obtain⟨c00,f00,c01,f01,c02,f02,c03,f03,c04,f04,z0⟩:=H02.out.x5
  obtain⟨c10,f10,c11,f11,c12,f12,c13,f13,c14,f14,z1⟩:=H12.out.x5
  go_wp2_with fail
  have b':=(((((H12.out.set 0 (.int .i64 i0)).set 1 (.int .u32 i1)).set 2 (.int .i64 i2)).set 3 (.int .u64 i3)).set 4 (.int .u64 i4))
  have hB':=(((((hB2.out.setCell (p:=⟨w.heap.size+1,0,none⟩) (by dsimp only;omega) (.int .i64 i0)).setCell (p:=⟨w.heap.size+1,1,none⟩) (by dsimp only;omega) (.int .u32 i1)).setCell (p:=⟨w.heap.size+1,2,none⟩) (by dsimp only;omega) (.int .i64 i2)).setCell (p:=⟨w.heap.size+1,3,none⟩) (by dsimp only;omega) (.int .u64 i3)).setCell (p:=⟨w.heap.size+1,4,none⟩) (by dsimp only;omega) (.int .u64 i4))
  have gg:=b'.x5
  exact bodyPost_ret (v:=.tuple #[.agg #[.int .i64 i0,.int .u32 i1,.int .i64 i2,.int .u64 i3,.int .u64 i4],.int .i64 ie]) (by simp[results,Tryz.results133,go_sem,gg]) rfl ⟨rfl,hB'⟩
 ·obtain rfl:M=(⟨st,ow,ti,se,ep⟩,E):=by rw[hT.out];simp[h]
  have t:(E !=0)=true:=by simpa using h
  clear hT h
  go_enter Tryz.func133,Tryz.ntmps133
  go_wp2_with fail
  refine(C.out _).mono ?_
  rintro e w1 ⟨rfl,hb1⟩
  have hB1:=Lib.hid ((bal (ba w _)).trans (hb1.mono (bal (ba w _)).size))
  have b01:=((BoxN.new w 81 #[.int .i64 st,.int .u32 ow,.int .i64 ti,.int .u64 se,.int .u64 ep]).alloc (.cells #[.int .i64 0,.int .u32 0,.int .i64 0,.int .u64 0,.int .u64 0] 81)).later hb1
  have b11:=(BoxN.new (w.alloc (.cells #[.int .i64 st,.int .u32 ow,.int .i64 ti,.int .u64 se,.int .u64 ep] 81)) 81 #[.int .i64 0,.int .u32 0,.int .i64 0,.int .u64 0,.int .u64 0]).later hb1
  simp only[World.size_alloc] at b11
  have H01:=Lib.hid b01
  have H11:=Lib.hid b11
  clear b01 b11
  clear hb1
  obtain⟨c00,f00,c01,f01,c02,f02,c03,f03,c04,f04,z0⟩:=H01.out.x5
  obtain⟨c10,f10,c11,f11,c12,f12,c13,f13,c14,f14,z1⟩:=H11.out.x5
  go_wp2_with fail
  have b':=(((((H11.out.set 0 (.int .i64 st)).set 1 (.int .u32 ow)).set 2 (.int .i64 ti)).set 3 (.int .u64 se)).set 4 (.int .u64 ep))
  have hB':=(((((hB1.out.setCell (p:=⟨w.heap.size+1,0,none⟩) (by dsimp only;omega) (.int .i64 st)).setCell (p:=⟨w.heap.size+1,1,none⟩) (by dsimp only;omega) (.int .u32 ow)).setCell (p:=⟨w.heap.size+1,2,none⟩) (by dsimp only;omega) (.int .i64 ti)).setCell (p:=⟨w.heap.size+1,3,none⟩) (by dsimp only;omega) (.int .u64 se)).setCell (p:=⟨w.heap.size+1,4,none⟩) (by dsimp only;omega) (.int .u64 ep))
  have gg:=b'.x5
  exact bodyPost_ret (v:=.tuple #[.agg #[.int .i64 st,.int .u32 ow,.int .i64 ti,.int .u64 se,.int .u64 ep],.int .i64 E]) (by simp[results,Tryz.results133,go_sem,gg]) rfl ⟨rfl,hB'⟩
set_option maxHeartbeats 2000000 in
theorem sxRevoke_any (x:Sx) (w:World) (hx:SxOk x):Calls Tryz.prog 136 #[sxV x] w fun e w'=>e=.returned (.tuple #[sxV (sxRevoke x).1,.int .i64 (sxRevoke x).2])∧Below w.heap.size w w':=by
 have C:=Lib.hid (sxState_any x 2)
 have C2:=Lib.hid (sxOpen_any {x with epoch:=x.epoch+1})
 have hT:=Lib.hid (show sxRevoke x=if sxState x 2≠0 then(x,sxState x 2) else if x.epoch=18446744073709551615 then(x,17) else(sxOpen {x with epoch:=x.epoch+1},0) from rfl)
 unfold sxV at C
 unfold sxV sxOpen at C2
 unfold sxV
 generalize sxRevoke x=M at hT⊢
 generalize sxState x 2=E at C hT
 obtain⟨st,ow,ti,se,ep⟩:=x
 simp only[sxOpen] at C C2 hT⊢
 have hU:U64 ep:=hx.2.2.2.2
 unfold U64 at hU
 by_cases h:E=0
 ·subst h
  by_cases h:ep=18446744073709551615
  ·subst h
   obtain rfl:M=(⟨st,ow,ti,se,18446744073709551615⟩,17):=by rw[hT.out];simp
   clear hT hU hx C2
   go_enter Tryz.func136,Tryz.ntmps136
   go_wp2_with fail
   refine(C.out _).mono ?_
   rintro e w1 ⟨rfl,hb1⟩
   have hB1:=Lib.hid ((bal (ba w _)).trans (hb1.mono (bal (ba w _)).size))
   have b01:=((BoxN.new w 81 #[.int .i64 st,.int .u32 ow,.int .i64 ti,.int .u64 se,.int .u64 18446744073709551615]).alloc (.cells #[.int .i64 0,.int .u32 0,.int .i64 0,.int .u64 0,.int .u64 0] 81)).later hb1
   have b11:=(BoxN.new (w.alloc (.cells #[.int .i64 st,.int .u32 ow,.int .i64 ti,.int .u64 se,.int .u64 18446744073709551615] 81)) 81 #[.int .i64 0,.int .u32 0,.int .i64 0,.int .u64 0,.int .u64 0]).later hb1
   simp only[World.size_alloc] at b11
   have H01:=Lib.hid b01
   have H11:=Lib.hid b11
   clear b01 b11
   clear hb1
   obtain⟨c00,f00,c01,f01,c02,f02,c03,f03,c04,f04,z0⟩:=H01.out.x5
   obtain⟨c10,f10,c11,f11,c12,f12,c13,f13,c14,f14,z1⟩:=H11.out.x5
   go_wp2_with fail
   have b':=(((((H11.out.set 0 (.int .i64 st)).set 1 (.int .u32 ow)).set 2 (.int .i64 ti)).set 3 (.int .u64 se)).set 4 (.int .u64 18446744073709551615))
   have hB':=(((((hB1.out.setCell (p:=⟨w.heap.size+1,0,none⟩) (by dsimp only;omega) (.int .i64 st)).setCell (p:=⟨w.heap.size+1,1,none⟩) (by dsimp only;omega) (.int .u32 ow)).setCell (p:=⟨w.heap.size+1,2,none⟩) (by dsimp only;omega) (.int .i64 ti)).setCell (p:=⟨w.heap.size+1,3,none⟩) (by dsimp only;omega) (.int .u64 se)).setCell (p:=⟨w.heap.size+1,4,none⟩) (by dsimp only;omega) (.int .u64 18446744073709551615))
   have gg:=b'.x5
   exact bodyPost_ret (v:=.tuple #[.agg #[.int .i64 st,.int .u32 ow,.int .i64 ti,.int .u64 se,.int .u64 18446744073709551615],.int .i64 17]) (by simp[results,Tryz.results136,go_sem,gg]) rfl ⟨rfl,hB'⟩
  ·obtain rfl:M=(⟨0,0,0,se,ep+1⟩,0):=by rw[hT.out];simp[h]
   have t:(ep==18446744073709551615)=false:=by simpa using h
   have hw:IntKind.u64.wrap (ep+1)=ep+1:=IntWalk.u64_in _ (by omega)
   clear hT h hx
   go_enter Tryz.func136,Tryz.ntmps136
   go_wp2_with fail
   refine(C.out _).mono ?_
   rintro e w1 ⟨rfl,hb1⟩
   have hB1:=Lib.hid ((bal (ba w _)).trans (hb1.mono (bal (ba w _)).size))
   have b01:=((BoxN.new w 81 #[.int .i64 st,.int .u32 ow,.int .i64 ti,.int .u64 se,.int .u64 ep]).alloc (.cells #[.int .i64 0,.int .u32 0,.int .i64 0,.int .u64 0,.int .u64 0] 81)).later hb1
   have b11:=(BoxN.new (w.alloc (.cells #[.int .i64 st,.int .u32 ow,.int .i64 ti,.int .u64 se,.int .u64 ep] 81)) 81 #[.int .i64 0,.int .u32 0,.int .i64 0,.int .u64 0,.int .u64 0]).later hb1
   simp only[World.size_alloc] at b11
   have H01:=Lib.hid b01
   have H11:=Lib.hid b11
   clear b01 b11
   clear hb1
   obtain⟨c00,f00,c01,f01,c02,f02,c03,f03,c04,f04,z0⟩:=H01.out.x5
   obtain⟨c10,f10,c11,f11,c12,f12,c13,f13,c14,f14,z1⟩:=H11.out.x5
   go_upto_region 7 with fail
   have b02:=H01.out.set 4 (.int .u64 (ep+1))
   have b12:=H11.out.kept (grownBy_set w1 w.heap.size 4 (.int .u64 (ep+1))) (by simp)
   have hB2:=Lib.hid (hB1.out.setCell (p:=⟨w.heap.size,4,none⟩) (by simp) (.int .u64 (ep+1)))
   refine at_world (fun W=>Below w.heap.size w W∧BoxN W w.heap.size 81 #[.int .i64 st,.int .u32 ow,.int .i64 ti,.int .u64 se,.int .u64 (ep+1)]∧BoxN W (w.heap.size+1) 81 #[.int .i64 0,.int .u32 0,.int .i64 0,.int .u64 0,.int .u64 0]) ⟨hB2.out,b02,b12⟩ fun w2 ⟨hb,b02,b12⟩=> ?_
   clear hB2 c00 f00 c01 f01 c02 f02 c03 f03 c04 f04 z0 c10 f10 c11 f11 c12 f12 c13 f13 c14 f14 z1
   have hB2:=Lib.hid hb
   clear hb
   have H02:=Lib.hid b02
   have H12:=Lib.hid b12
   clear b02 b12
   obtain⟨c00,f00,c01,f01,c02,f02,c03,f03,c04,f04,z0⟩:=H02.out.x5
   obtain⟨c10,f10,c11,f11,c12,f12,c13,f13,c14,f14,z1⟩:=H12.out.x5
   go_wp2_with fail
   refine(C2.out _).mono ?_
   rintro e w3 ⟨rfl,hb3⟩
   have hB3:=Lib.hid (hB2.out.trans (hb3.mono hB2.out.size))
   have b03:=H02.out.later hb3
   have b13:=H12.out.later hb3
   have H03:=Lib.hid b03
   have H13:=Lib.hid b13
   clear b03 b13
   clear hb3
   clear c00 f00 c01 f01 c02 f02 c03 f03 c04 f04 z0 c10 f10 c11 f11 c12 f12 c13 f13 c14 f14 z1
   obtain⟨c00,f00,c01,f01,c02,f02,c03,f03,c04,f04,z0⟩:=H03.out.x5
   obtain⟨c10,f10,c11,f11,c12,f12,c13,f13,c14,f14,z1⟩:=H13.out.x5
   go_wp2_with fail
   have b':=(((((H13.out.set 0 (.int .i64 0)).set 1 (.int .u32 0)).set 2 (.int .i64 0)).set 3 (.int .u64 se)).set 4 (.int .u64 (ep+1)))
   have hB':=(((((hB3.out.setCell (p:=⟨w.heap.size+1,0,none⟩) (by dsimp only;omega) (.int .i64 0)).setCell (p:=⟨w.heap.size+1,1,none⟩) (by dsimp only;omega) (.int .u32 0)).setCell (p:=⟨w.heap.size+1,2,none⟩) (by dsimp only;omega) (.int .i64 0)).setCell (p:=⟨w.heap.size+1,3,none⟩) (by dsimp only;omega) (.int .u64 se)).setCell (p:=⟨w.heap.size+1,4,none⟩) (by dsimp only;omega) (.int .u64 (ep+1)))
   have gg:=b'.x5
   exact bodyPost_ret (v:=.tuple #[.agg #[.int .i64 0,.int .u32 0,.int .i64 0,.int .u64 se,.int .u64 (ep+1)],.int .i64 0]) (by simp[results,Tryz.results136,go_sem,gg]) rfl ⟨rfl,hB'⟩
 ·obtain rfl:M=(⟨st,ow,ti,se,ep⟩,E):=by rw[hT.out];simp[h]
  have t:(E !=0)=true:=by simpa using h
  clear hT h hx hU C2
  go_enter Tryz.func136,Tryz.ntmps136
  go_wp2_with fail
  refine(C.out _).mono ?_
  rintro e w1 ⟨rfl,hb1⟩
  have hB1:=Lib.hid ((bal (ba w _)).trans (hb1.mono (bal (ba w _)).size))
  have b01:=((BoxN.new w 81 #[.int .i64 st,.int .u32 ow,.int .i64 ti,.int .u64 se,.int .u64 ep]).alloc (.cells #[.int .i64 0,.int .u32 0,.int .i64 0,.int .u64 0,.int .u64 0] 81)).later hb1
  have b11:=(BoxN.new (w.alloc (.cells #[.int .i64 st,.int .u32 ow,.int .i64 ti,.int .u64 se,.int .u64 ep] 81)) 81 #[.int .i64 0,.int .u32 0,.int .i64 0,.int .u64 0,.int .u64 0]).later hb1
  simp only[World.size_alloc] at b11
  have H01:=Lib.hid b01
  have H11:=Lib.hid b11
  clear b01 b11
  clear hb1
  obtain⟨c00,f00,c01,f01,c02,f02,c03,f03,c04,f04,z0⟩:=H01.out.x5
  obtain⟨c10,f10,c11,f11,c12,f12,c13,f13,c14,f14,z1⟩:=H11.out.x5
  go_wp2_with fail
  have b':=(((((H11.out.set 0 (.int .i64 st)).set 1 (.int .u32 ow)).set 2 (.int .i64 ti)).set 3 (.int .u64 se)).set 4 (.int .u64 ep))
  have hB':=(((((hB1.out.setCell (p:=⟨w.heap.size+1,0,none⟩) (by dsimp only;omega) (.int .i64 st)).setCell (p:=⟨w.heap.size+1,1,none⟩) (by dsimp only;omega) (.int .u32 ow)).setCell (p:=⟨w.heap.size+1,2,none⟩) (by dsimp only;omega) (.int .i64 ti)).setCell (p:=⟨w.heap.size+1,3,none⟩) (by dsimp only;omega) (.int .u64 se)).setCell (p:=⟨w.heap.size+1,4,none⟩) (by dsimp only;omega) (.int .u64 ep))
  have gg:=b'.x5
  exact bodyPost_ret (v:=.tuple #[.agg #[.int .i64 st,.int .u32 ow,.int .i64 ti,.int .u64 se,.int .u64 ep],.int .i64 E]) (by simp[results,Tryz.results136,go_sem,gg]) rfl ⟨rfl,hB'⟩
set_option maxHeartbeats 2000000 in
theorem sxValid_any (x:Sx) (t:Tk) (w:World):Calls Tryz.prog 137 #[sxV x,tkV t] w fun e w'=>e=.returned (.int .i64 (sxValid x t))∧Below w.heap.size w w':=by
 have C:=Lib.hid (sxTicket_any x t.seat)
 have hK:=Lib.hid (show sxTicket x t.seat=if sxState x 2≠0 then(noTk,sxState x 2) else(⟨t.seat,x.owner,x.serial,x.epoch⟩,0) from rfl)
 have hT:=Lib.hid (show sxValid x t=if sxState x 2≠0 then sxState x 2 else if t.owner=x.owner∧t.serial=x.serial∧t.epoch=x.epoch then 0 else 16 from rfl)
 unfold sxV tkV at C
 unfold sxV tkV
 generalize sxValid x t=M at hT⊢
 generalize sxTicket x t.seat=K at C hK
 generalize sxState x 2=E at hK hT
 obtain⟨st,ow,ti,se,ep⟩:=x
 obtain⟨ts,tw,te,tp⟩:=t
 simp only at C hK hT⊢
 by_cases h:E=0
 ·subst h
  obtain rfl:K=(⟨ts,ow,se,ep⟩,0):=by rw[hK.out];simp
  by_cases h:tw=ow∧te=se∧tp=ep
  ·obtain rfl:M=0:=by rw[hT.out];simp[h]
   obtain⟨rfl,rfl,rfl⟩:=h
   clear hT hK
   go_enter Tryz.func137,Tryz.ntmps137
   go_wp2_with fail
   refine(C.out _).mono ?_
   rintro e w1 ⟨rfl,hb1⟩
   have hB1:=Lib.hid ((bal (ba w _)).trans (hb1.mono (bal (ba w _)).size))
   have b01:=((BoxN.new w 81 #[.int .i64 st,.int .u32 tw,.int .i64 ti,.int .u64 te,.int .u64 tp]).alloc (.cells #[.int .u32 ts,.int .u32 tw,.int .u64 te,.int .u64 tp] 44)).later hb1
   have b11:=(BoxN.new (w.alloc (.cells #[.int .i64 st,.int .u32 tw,.int .i64 ti,.int .u64 te,.int .u64 tp] 81)) 44 #[.int .u32 ts,.int .u32 tw,.int .u64 te,.int .u64 tp]).later hb1
   simp only[World.size_alloc] at b11
   have H01:=Lib.hid b01
   have H11:=Lib.hid b11
   clear b01 b11
   clear hb1
   obtain⟨c00,f00,c01,f01,c02,f02,c03,f03,c04,f04,z0⟩:=H01.out.x5
   obtain⟨c10,f10,c11,f11,c12,f12,c13,f13,z1⟩:=H11.out.x4
   go_wp2_with fail
   all_goals first|(exfalso;have:=hh.out;omega)|(go_ret;exact⟨rfl,bal hB1.out⟩)
  ·obtain rfl:M=16:=by rw[hT.out];simp[h]
   have hh:=Lib.hid h
   clear hT hK h
   go_enter Tryz.func137,Tryz.ntmps137
   go_wp2_with fail
   refine(C.out _).mono ?_
   rintro e w1 ⟨rfl,hb1⟩
   have hB1:=Lib.hid ((bal (ba w _)).trans (hb1.mono (bal (ba w _)).size))
   have b01:=((BoxN.new w 81 #[.int .i64 st,.int .u32 ow,.int .i64 ti,.int .u64 se,.int .u64 ep]).alloc (.cells #[.int .u32 ts,.int .u32 tw,.int .u64 te,.int .u64 tp] 44)).later hb1
   have b11:=(BoxN.new (w.alloc (.cells #[.int .i64 st,.int .u32 ow,.int .i64 ti,.int .u64 se,.int .u64 ep] 81)) 44 #[.int .u32 ts,.int .u32 tw,.int .u64 te,.int .u64 tp]).later hb1
   simp only[World.size_alloc] at b11
   have H01:=Lib.hid b01
   have H11:=Lib.hid b11
   clear b01 b11
   clear hb1
   obtain⟨c00,f00,c01,f01,c02,f02,c03,f03,c04,f04,z0⟩:=H01.out.x5
   obtain⟨c10,f10,c11,f11,c12,f12,c13,f13,z1⟩:=H11.out.x4
   go_wp2_with fail
   all_goals first|(exfalso;have:=hh.out;omega)|(go_ret;exact⟨rfl,bal hB1.out⟩)
 ·obtain rfl:K=(noTk,E):=by rw[hK.out];simp[h]
  obtain rfl:M=E:=by rw[hT.out];simp[h]
  have t:(M !=0)=true:=by simpa using h
  unfold noTk at C
  clear hT hK h
  go_enter Tryz.func137,Tryz.ntmps137
  go_wp2_with fail
  refine(C.out _).mono ?_
  rintro e w1 ⟨rfl,hb1⟩
  have hB1:=Lib.hid ((bal (ba w _)).trans (hb1.mono (bal (ba w _)).size))
  have b01:=((BoxN.new w 81 #[.int .i64 st,.int .u32 ow,.int .i64 ti,.int .u64 se,.int .u64 ep]).alloc (.cells #[.int .u32 ts,.int .u32 tw,.int .u64 te,.int .u64 tp] 44)).later hb1
  have b11:=(BoxN.new (w.alloc (.cells #[.int .i64 st,.int .u32 ow,.int .i64 ti,.int .u64 se,.int .u64 ep] 81)) 44 #[.int .u32 ts,.int .u32 tw,.int .u64 te,.int .u64 tp]).later hb1
  simp only[World.size_alloc] at b11
  have H01:=Lib.hid b01
  have H11:=Lib.hid b11
  clear b01 b11
  clear hb1
  obtain⟨c00,f00,c01,f01,c02,f02,c03,f03,c04,f04,z0⟩:=H01.out.x5
  obtain⟨c10,f10,c11,f11,c12,f12,c13,f13,z1⟩:=H11.out.x4
  go_wp2_with fail
  all_goals first|(exfalso;have:=hh.out;omega)|(go_ret;exact⟨rfl,bal hB1.out⟩)
set_option maxHeartbeats 2000000 in
theorem sxRefund_any (x:Sx) (t:Tk) (w:World):Calls Tryz.prog 135 #[sxV x,tkV t] w fun e w'=>e=.returned (.tuple #[sxV (sxRefund x t).1,.int .i64 (sxRefund x t).2])∧Below w.heap.size w w':=by
 have C:=Lib.hid (sxValid_any x t)
 have C2:=Lib.hid (sxOpen_any x)
 have hT:=Lib.hid (show sxRefund x t=if sxValid x t≠0 then(x,sxValid x t) else(sxOpen x,0) from rfl)
 unfold sxV tkV at C
 unfold sxV sxOpen at C2
 unfold sxV tkV
 generalize sxRefund x t=M at hT⊢
 generalize sxValid x t=E at C hT
 obtain⟨st,ow,ti,se,ep⟩:=x
 obtain⟨ts,tw,te,tp⟩:=t
 simp only[sxOpen] at C C2 hT⊢
 by_cases h:E=0
 ·subst h
  obtain rfl:M=(⟨0,0,0,se,ep⟩,0):=by rw[hT.out];simp
  clear hT
  go_enter Tryz.func135,Tryz.ntmps135
  go_wp2_with fail
  refine(C.out _).mono ?_
  rintro e w1 ⟨rfl,hb1⟩
  have hB1:=Lib.hid ((bal (bal (ba w _))).trans (hb1.mono (bal (bal (ba w _))).size))
  have b01:=(((BoxN.new w 81 #[.int .i64 st,.int .u32 ow,.int .i64 ti,.int .u64 se,.int .u64 ep]).alloc (.cells #[.int .u32 ts,.int .u32 tw,.int .u64 te,.int .u64 tp] 44)).alloc (.cells #[.int .i64 0,.int .u32 0,.int .i64 0,.int .u64 0,.int .u64 0] 81)).later hb1
  have b11:=((BoxN.new (w.alloc (.cells #[.int .i64 st,.int .u32 ow,.int .i64 ti,.int .u64 se,.int .u64 ep] 81)) 44 #[.int .u32 ts,.int .u32 tw,.int .u64 te,.int .u64 tp]).alloc (.cells #[.int .i64 0,.int .u32 0,.int .i64 0,.int .u64 0,.int .u64 0] 81)).later hb1
  simp only[World.size_alloc] at b11
  have b21:=(BoxN.new ((w.alloc (.cells #[.int .i64 st,.int .u32 ow,.int .i64 ti,.int .u64 se,.int .u64 ep] 81)).alloc (.cells #[.int .u32 ts,.int .u32 tw,.int .u64 te,.int .u64 tp] 44)) 81 #[.int .i64 0,.int .u32 0,.int .i64 0,.int .u64 0,.int .u64 0]).later hb1
  simp only[World.size_alloc] at b21
  have H01:=Lib.hid b01
  have H11:=Lib.hid b11
  have H21:=Lib.hid b21
  clear b01 b11 b21
  clear hb1
  obtain⟨c00,f00,c01,f01,c02,f02,c03,f03,c04,f04,z0⟩:=H01.out.x5
  obtain⟨c10,f10,c11,f11,c12,f12,c13,f13,z1⟩:=H11.out.x4
  obtain⟨c20,f20,c21,f21,c22,f22,c23,f23,c24,f24,z2⟩:=H21.out.x5
  go_wp2_with fail
  refine(C2.out _).mono ?_
  rintro e w2 ⟨rfl,hb2⟩
  have hB2:=Lib.hid (hB1.out.trans (hb2.mono hB1.out.size))
  have b02:=H01.out.later hb2
  have b12:=H11.out.later hb2
  have b22:=H21.out.later hb2
  have H02:=Lib.hid b02
  have H12:=Lib.hid b12
  have H22:=Lib.hid b22
  clear b02 b12 b22
  clear hb2
  clear c00 f00 c01 f01 c02 f02 c03 f03 c04 f04 z0 c10 f10 c11 f11 c12 f12 c13 f13 z1 c20 f20 c21 f21 c22 f22 c23 f23 c24 f24 z2
  obtain⟨c00,f00,c01,f01,c02,f02,c03,f03,c04,f04,z0⟩:=H02.out.x5
  obtain⟨c10,f10,c11,f11,c12,f12,c13,f13,z1⟩:=H12.out.x4
  obtain⟨c20,f20,c21,f21,c22,f22,c23,f23,c24,f24,z2⟩:=H22.out.x5
  go_wp2_with fail
  have b':=(((((H22.out.set 0 (.int .i64 0)).set 1 (.int .u32 0)).set 2 (.int .i64 0)).set 3 (.int .u64 se)).set 4 (.int .u64 ep))
  have hB':=(((((hB2.out.setCell (p:=⟨w.heap.size+1+1,0,none⟩) (by dsimp only;omega) (.int .i64 0)).setCell (p:=⟨w.heap.size+1+1,1,none⟩) (by dsimp only;omega) (.int .u32 0)).setCell (p:=⟨w.heap.size+1+1,2,none⟩) (by dsimp only;omega) (.int .i64 0)).setCell (p:=⟨w.heap.size+1+1,3,none⟩) (by dsimp only;omega) (.int .u64 se)).setCell (p:=⟨w.heap.size+1+1,4,none⟩) (by dsimp only;omega) (.int .u64 ep))
  have gg:=b'.x5
  exact bodyPost_ret (v:=.tuple #[.agg #[.int .i64 0,.int .u32 0,.int .i64 0,.int .u64 se,.int .u64 ep],.int .i64 0]) (by simp[results,Tryz.results135,go_sem,gg]) rfl ⟨rfl,hB'⟩
 ·obtain rfl:M=(⟨st,ow,ti,se,ep⟩,E):=by rw[hT.out];simp[h]
  have t:(E !=0)=true:=by simpa using h
  clear hT h
  go_enter Tryz.func135,Tryz.ntmps135
  go_wp2_with fail
  refine(C.out _).mono ?_
  rintro e w1 ⟨rfl,hb1⟩
  have hB1:=Lib.hid ((bal (bal (ba w _))).trans (hb1.mono (bal (bal (ba w _))).size))
  have b01:=(((BoxN.new w 81 #[.int .i64 st,.int .u32 ow,.int .i64 ti,.int .u64 se,.int .u64 ep]).alloc (.cells #[.int .u32 ts,.int .u32 tw,.int .u64 te,.int .u64 tp] 44)).alloc (.cells #[.int .i64 0,.int .u32 0,.int .i64 0,.int .u64 0,.int .u64 0] 81)).later hb1
  have b11:=((BoxN.new (w.alloc (.cells #[.int .i64 st,.int .u32 ow,.int .i64 ti,.int .u64 se,.int .u64 ep] 81)) 44 #[.int .u32 ts,.int .u32 tw,.int .u64 te,.int .u64 tp]).alloc (.cells #[.int .i64 0,.int .u32 0,.int .i64 0,.int .u64 0,.int .u64 0] 81)).later hb1
  simp only[World.size_alloc] at b11
  have b21:=(BoxN.new ((w.alloc (.cells #[.int .i64 st,.int .u32 ow,.int .i64 ti,.int .u64 se,.int .u64 ep] 81)).alloc (.cells #[.int .u32 ts,.int .u32 tw,.int .u64 te,.int .u64 tp] 44)) 81 #[.int .i64 0,.int .u32 0,.int .i64 0,.int .u64 0,.int .u64 0]).later hb1
  simp only[World.size_alloc] at b21
  have H01:=Lib.hid b01
  have H11:=Lib.hid b11
  have H21:=Lib.hid b21
  clear b01 b11 b21
  clear hb1
  obtain⟨c00,f00,c01,f01,c02,f02,c03,f03,c04,f04,z0⟩:=H01.out.x5
  obtain⟨c10,f10,c11,f11,c12,f12,c13,f13,z1⟩:=H11.out.x4
  obtain⟨c20,f20,c21,f21,c22,f22,c23,f23,c24,f24,z2⟩:=H21.out.x5
  go_wp2_with fail
  have b':=(((((H21.out.set 0 (.int .i64 st)).set 1 (.int .u32 ow)).set 2 (.int .i64 ti)).set 3 (.int .u64 se)).set 4 (.int .u64 ep))
  have hB':=(((((hB1.out.setCell (p:=⟨w.heap.size+1+1,0,none⟩) (by dsimp only;omega) (.int .i64 st)).setCell (p:=⟨w.heap.size+1+1,1,none⟩) (by dsimp only;omega) (.int .u32 ow)).setCell (p:=⟨w.heap.size+1+1,2,none⟩) (by dsimp only;omega) (.int .i64 ti)).setCell (p:=⟨w.heap.size+1+1,3,none⟩) (by dsimp only;omega) (.int .u64 se)).setCell (p:=⟨w.heap.size+1+1,4,none⟩) (by dsimp only;omega) (.int .u64 ep))
  have gg:=b'.x5
  exact bodyPost_ret (v:=.tuple #[.agg #[.int .i64 st,.int .u32 ow,.int .i64 ti,.int .u64 se,.int .u64 ep],.int .i64 E]) (by simp[results,Tryz.results135,go_sem,gg]) rfl ⟨rfl,hB'⟩
set_option maxHeartbeats 2000000 in
theorem sxTransfer_any (x:Sx) (t:Tk) (too:Int) (w:World) (hx:SxOk x):Calls Tryz.prog 134 #[sxV x,tkV t,.int .u32 too] w fun e w'=>e=.returned (.tuple #[sxV (sxTransfer x t too).1,.int .i64 (sxTransfer x t too).2])∧Below w.heap.size w w':=by
 have C:=Lib.hid (sxValid_any x t)
 have C2:=Lib.hid (fun w=>sxIssue_any x too w hx)
 have hT:=Lib.hid (show sxTransfer x t too=if sxValid x t≠0 then(x,sxValid x t) else sxIssue x too from rfl)
 unfold sxV tkV at C
 unfold sxV at C2
 unfold sxV tkV
 generalize sxTransfer x t too=M at hT⊢
 generalize sxValid x t=E at C hT
 generalize sxIssue x too=I at C2 hT
 clear hx
 obtain⟨st,ow,ti,se,ep⟩:=x
 obtain⟨⟨i0,i1,i2,i3,i4⟩,ie⟩:=I
 obtain⟨ts,tw,te,tp⟩:=t
 simp only at C C2 hT⊢
 by_cases h:E=0
 ·subst h
  obtain rfl:M=(⟨i0,i1,i2,i3,i4⟩,ie):=by rw[hT.out];simp
  clear hT
  go_enter Tryz.func134,Tryz.ntmps134
  go_wp2_with fail
  refine(C.out _).mono ?_
  rintro e w1 ⟨rfl,hb1⟩
  have hB1:=Lib.hid ((bal (bal (ba w _))).trans (hb1.mono (bal (bal (ba w _))).size))
  have b01:=(((BoxN.new w 81 #[.int .i64 st,.int .u32 ow,.int .i64 ti,.int .u64 se,.int .u64 ep]).alloc (.cells #[.int .u32 ts,.int .u32 tw,.int .u64 te,.int .u64 tp] 44)).alloc (.cells #[.int .i64 0,.int .u32 0,.int .i64 0,.int .u64 0,.int .u64 0] 81)).later hb1
  have b11:=((BoxN.new (w.alloc (.cells #[.int .i64 st,.int .u32 ow,.int .i64 ti,.int .u64 se,.int .u64 ep] 81)) 44 #[.int .u32 ts,.int .u32 tw,.int .u64 te,.int .u64 tp]).alloc (.cells #[.int .i64 0,.int .u32 0,.int .i64 0,.int .u64 0,.int .u64 0] 81)).later hb1
  simp only[World.size_alloc] at b11
  have b21:=(BoxN.new ((w.alloc (.cells #[.int .i64 st,.int .u32 ow,.int .i64 ti,.int .u64 se,.int .u64 ep] 81)).alloc (.cells #[.int .u32 ts,.int .u32 tw,.int .u64 te,.int .u64 tp] 44)) 81 #[.int .i64 0,.int .u32 0,.int .i64 0,.int .u64 0,.int .u64 0]).later hb1
  simp only[World.size_alloc] at b21
  have H01:=Lib.hid b01
  have H11:=Lib.hid b11
  have H21:=Lib.hid b21
  clear b01 b11 b21
  clear hb1
  obtain⟨c00,f00,c01,f01,c02,f02,c03,f03,c04,f04,z0⟩:=H01.out.x5
  obtain⟨c10,f10,c11,f11,c12,f12,c13,f13,z1⟩:=H11.out.x4
  obtain⟨c20,f20,c21,f21,c22,f22,c23,f23,c24,f24,z2⟩:=H21.out.x5
  go_wp2_with fail
  refine(C2.out _).mono ?_
  rintro e w2 ⟨rfl,hb2⟩
  have hB2:=Lib.hid (hB1.out.trans (hb2.mono hB1.out.size))
  have b02:=H01.out.later hb2
  have b12:=H11.out.later hb2
  have b22:=H21.out.later hb2
  have H02:=Lib.hid b02
  have H12:=Lib.hid b12
  have H22:=Lib.hid b22
  clear b02 b12 b22
  clear hb2
  clear c00 f00 c01 f01 c02 f02 c03 f03 c04 f04 z0 c10 f10 c11 f11 c12 f12 c13 f13 z1 c20 f20 c21 f21 c22 f22 c23 f23 c24 f24 z2
  obtain⟨c00,f00,c01,f01,c02,f02,c03,f03,c04,f04,z0⟩:=H02.out.x5
  obtain⟨c10,f10,c11,f11,c12,f12,c13,f13,z1⟩:=H12.out.x4
  obtain⟨c20,f20,c21,f21,c22,f22,c23,f23,c24,f24,z2⟩:=H22.out.x5
  go_wp2_with fail
  have b':=(((((H22.out.set 0 (.int .i64 i0)).set 1 (.int .u32 i1)).set 2 (.int .i64 i2)).set 3 (.int .u64 i3)).set 4 (.int .u64 i4))
  have hB':=(((((hB2.out.setCell (p:=⟨w.heap.size+1+1,0,none⟩) (by dsimp only;omega) (.int .i64 i0)).setCell (p:=⟨w.heap.size+1+1,1,none⟩) (by dsimp only;omega) (.int .u32 i1)).setCell (p:=⟨w.heap.size+1+1,2,none⟩) (by dsimp only;omega) (.int .i64 i2)).setCell (p:=⟨w.heap.size+1+1,3,none⟩) (by dsimp only;omega) (.int .u64 i3)).setCell (p:=⟨w.heap.size+1+1,4,none⟩) (by dsimp only;omega) (.int .u64 i4))
  have gg:=b'.x5
  exact bodyPost_ret (v:=.tuple #[.agg #[.int .i64 i0,.int .u32 i1,.int .i64 i2,.int .u64 i3,.int .u64 i4],.int .i64 ie]) (by simp[results,Tryz.results134,go_sem,gg]) rfl ⟨rfl,hB'⟩
 ·obtain rfl:M=(⟨st,ow,ti,se,ep⟩,E):=by rw[hT.out];simp[h]
  have t:(E !=0)=true:=by simpa using h
  clear hT h
  go_enter Tryz.func134,Tryz.ntmps134
  go_wp2_with fail
  refine(C.out _).mono ?_
  rintro e w1 ⟨rfl,hb1⟩
  have hB1:=Lib.hid ((bal (bal (ba w _))).trans (hb1.mono (bal (bal (ba w _))).size))
  have b01:=(((BoxN.new w 81 #[.int .i64 st,.int .u32 ow,.int .i64 ti,.int .u64 se,.int .u64 ep]).alloc (.cells #[.int .u32 ts,.int .u32 tw,.int .u64 te,.int .u64 tp] 44)).alloc (.cells #[.int .i64 0,.int .u32 0,.int .i64 0,.int .u64 0,.int .u64 0] 81)).later hb1
  have b11:=((BoxN.new (w.alloc (.cells #[.int .i64 st,.int .u32 ow,.int .i64 ti,.int .u64 se,.int .u64 ep] 81)) 44 #[.int .u32 ts,.int .u32 tw,.int .u64 te,.int .u64 tp]).alloc (.cells #[.int .i64 0,.int .u32 0,.int .i64 0,.int .u64 0,.int .u64 0] 81)).later hb1
  simp only[World.size_alloc] at b11
  have b21:=(BoxN.new ((w.alloc (.cells #[.int .i64 st,.int .u32 ow,.int .i64 ti,.int .u64 se,.int .u64 ep] 81)).alloc (.cells #[.int .u32 ts,.int .u32 tw,.int .u64 te,.int .u64 tp] 44)) 81 #[.int .i64 0,.int .u32 0,.int .i64 0,.int .u64 0,.int .u64 0]).later hb1
  simp only[World.size_alloc] at b21
  have H01:=Lib.hid b01
  have H11:=Lib.hid b11
  have H21:=Lib.hid b21
  clear b01 b11 b21
  clear hb1
  obtain⟨c00,f00,c01,f01,c02,f02,c03,f03,c04,f04,z0⟩:=H01.out.x5
  obtain⟨c10,f10,c11,f11,c12,f12,c13,f13,z1⟩:=H11.out.x4
  obtain⟨c20,f20,c21,f21,c22,f22,c23,f23,c24,f24,z2⟩:=H21.out.x5
  go_wp2_with fail
  have b':=(((((H21.out.set 0 (.int .i64 st)).set 1 (.int .u32 ow)).set 2 (.int .i64 ti)).set 3 (.int .u64 se)).set 4 (.int .u64 ep))
  have hB':=(((((hB1.out.setCell (p:=⟨w.heap.size+1+1,0,none⟩) (by dsimp only;omega) (.int .i64 st)).setCell (p:=⟨w.heap.size+1+1,1,none⟩) (by dsimp only;omega) (.int .u32 ow)).setCell (p:=⟨w.heap.size+1+1,2,none⟩) (by dsimp only;omega) (.int .i64 ti)).setCell (p:=⟨w.heap.size+1+1,3,none⟩) (by dsimp only;omega) (.int .u64 se)).setCell (p:=⟨w.heap.size+1+1,4,none⟩) (by dsimp only;omega) (.int .u64 ep))
  have gg:=b'.x5
  exact bodyPost_ret (v:=.tuple #[.agg #[.int .i64 st,.int .u32 ow,.int .i64 ti,.int .u64 se,.int .u64 ep],.int .i64 E]) (by simp[results,Tryz.results134,go_sem,gg]) rfl ⟨rfl,hB'⟩
end Go.Proofs.YtlckmjiioohcmaaGreatDoor
namespace Go.Proofs.YtlckmjiioohcmaaGreatDoor
open Go.RowKit
def orE (a b:Int):Int:=if a≠0 then a else b
set_option maxHeartbeats 1000000 in
theorem or2_any (a b:Int) (B:Nat) (w:World) (h0:w.cell? ⟨B,0,none⟩=some (.int .i64 a)) (h1:w.cell? ⟨B,1,none⟩=some (.int .i64 b)):
 Calls Tryz.prog 170 #[.slice (some ⟨B,0,none⟩) 2 2] w fun e w'=>e=.returned (.int .i64 (orE a b))∧Below w.heap.size w w':=by
 have hT:=Lib.hid (show orE a b=if a≠0 then a else b from rfl)
 generalize orE a b=M at hT⊢
 by_cases ha:a=0
 ·subst ha
  obtain rfl:M=b:=by rw[hT.out];simp
  clear hT
  by_cases hb:M=0
  ·subst hb
   go_enter Tryz.func170,Tryz.ntmps170
   go_wp2
   go_loopw [8] (fun i wr=>wr=w∧(i=.int .i64 0∨i=.int .i64 1∨i=.int .i64 2)) (fun i _=>2-(intOf i).toNat)
   case atStart=>exact⟨rfl,.inl rfl⟩
   case round=>
    obtain⟨rfl,rfl|rfl|rfl⟩:=hrel
    ·go_wp2
     exact⟨⟨trivial,.inr (.inl rfl)⟩,by simp[intOf]⟩
    ·go_wp2
     exact⟨⟨trivial,.inr (.inr rfl)⟩,by simp[intOf]⟩
    ·go_wp2
     go_ret
     exact⟨rfl,Below.refl _ _⟩
  ·have t:(M !=0)=true:=by simpa using hb
   clear hb
   go_enter Tryz.func170,Tryz.ntmps170
   go_wp2
   go_loopw [8] (fun i wr=>wr=w∧(i=.int .i64 0∨i=.int .i64 1)) (fun i _=>2-(intOf i).toNat)
   case atStart=>exact⟨rfl,.inl rfl⟩
   case round=>
    obtain⟨rfl,rfl|rfl⟩:=hrel
    ·go_wp2
     exact⟨⟨trivial,.inr rfl⟩,by simp[intOf]⟩
    ·go_wp2
     go_ret
     exact⟨rfl,Below.refl _ _⟩
 ·have t:(a !=0)=true:=by simpa using ha
  obtain rfl:M=a:=by rw[hT.out];simp[ha]
  clear ha hT
  go_enter Tryz.func170,Tryz.ntmps170
  go_wp2
  go_loopw [8] (fun i wr=>wr=w∧i=.int .i64 0) (fun i _=>2-(intOf i).toNat)
  case atStart=>exact⟨rfl,rfl⟩
  case round=>
   obtain⟨rfl,rfl⟩:=hrel
   go_wp2
   go_ret
   exact⟨rfl,Below.refl _ _⟩
def passT (d n:Int):Bool×Int:=if d<0∨n<0 then(false,7) else(decide (d≤n),0)
set_option maxHeartbeats 1000000 in
theorem passed_any (d n:Int) (w:World):
 Calls Tryz.prog 141 #[.int .i64 d,.int .i64 n] w fun e w'=>e=.returned (.tuple #[.bool (passT d n).1,.int .i64 (passT d n).2])∧Below w.heap.size w w':=by
 have C:=Lib.hid (none2_any d n w.heap.size (w.alloc (.cells #[.int .i64 d,.int .i64 n] 2)) ((Cells.new w [.int .i64 d,.int .i64 n] _).c 0 _ rfl) ((Cells.new w [.int .i64 d,.int .i64 n] _).c 1 _ rfl))
 by_cases h0:d<0∨n<0
 ·have t0:decide (min d n<0)=true:=by simp;omega
  have hT:=Lib.hid (show passT d n=(false,7) by rw[passT,if_pos h0])
  rw[t0] at C
  clear h0 t0
  go_enter Tryz.func141,Tryz.ntmps141
  go_wp2_with (go_at_call 181;refine C.out.mono ?_;rintro e w' ⟨rfl,hb⟩)
  go_ret2
  exact⟨by rw[hT.out];rfl,(ba _ _).trans (hb.mono (by simp))⟩
 ·have t0:decide (min d n<0)=false:=by simp;omega
  rw[t0] at C
  have hT:=Lib.hid (show passT d n=(decide (d≤n),0) by rw[passT,if_neg h0])
  clear h0 t0
  cases hq:decide (d≤n)<;>
  ·rw[hq] at hT
   go_enter Tryz.func141,Tryz.ntmps141
   go_wp2_with (go_at_call 181;refine C.out.mono ?_;rintro e w' ⟨rfl,hb⟩)
   go_ret2
   exact⟨by rw[hT.out];rfl,(ba _ _).trans (hb.mono (by simp))⟩
def sxHold (x:Sx) (owner d:Int):Sx×Int:=if orE (sxTime x d) (sxState x 0)≠0 then(x,orE (sxTime x d) (sxState x 0)) else({x with state:=1,owner:=owner,till:=d},0)
def sxExpire (x:Sx) (now:Int):Sx×Int:=if orE (sxTime x now) (sxState x 1)≠0 then(x,orE (sxTime x now) (sxState x 1)) else if(passT x.till now).1 then(sxOpen x,0) else(x,9)
theorem bstep {w a b:World} (h:Below w.heap.size w a) (h':Below a.heap.size a b):Below w.heap.size w b:=h.trans (h'.mono h.size)
set_option maxHeartbeats 2000000 in
theorem sxHold_any (x:Sx) (owner d:Int) (w:World):Calls Tryz.prog 128 #[sxV x,.int .u32 owner,.int .i64 d] w fun e w'=>e=.returned (.tuple #[sxV (sxHold x owner d).1,.int .i64 (sxHold x owner d).2])∧Below w.heap.size w w':=by
 have C1:=Lib.hid (sxTime_any x d)
 have C2:=Lib.hid (sxState_any x 0)
 have hT:=Lib.hid (show sxHold x owner d=if orE (sxTime x d) (sxState x 0)≠0 then(x,orE (sxTime x d) (sxState x 0)) else({x with state:=1,owner:=owner,till:=d},0) from rfl)
 unfold sxV at C1 C2⊢
 generalize sxHold x owner d=M at hT⊢
 generalize sxTime x d=E1 at C1 hT
 generalize sxState x 0=E2 at C2 hT
 obtain⟨st,ow,ti,se,ep⟩:=x
 simp only at C1 C2 hT⊢
 have C3:=Lib.hid (or2_any E1 E2)
 generalize orE E1 E2=E at C3 hT
 go_enter Tryz.func128,Tryz.ntmps128
 go_upto_region 1 with fail
 have b0:=(BoxN.new w 81 #[.int .i64 st,.int .u32 ow,.int .i64 ti,.int .u64 se,.int .u64 ep]).alloc (.cells #[.int .i64 0,.int .u32 0,.int .i64 0,.int .u64 0,.int .u64 0] 81)
 have b1:=BoxN.new (w.alloc (.cells #[.int .i64 st,.int .u32 ow,.int .i64 ti,.int .u64 se,.int .u64 ep] 81)) 81 #[.int .i64 0,.int .u32 0,.int .i64 0,.int .u64 0,.int .u64 0]
 rw[World.size_alloc] at b1
 refine at_world (fun W=>Below w.heap.size w W∧BoxN W w.heap.size 81 #[.int .i64 st,.int .u32 ow,.int .i64 ti,.int .u64 se,.int .u64 ep]∧BoxN W (w.heap.size+1) 81 #[.int .i64 0,.int .u32 0,.int .i64 0,.int .u64 0,.int .u64 0])
  ⟨bal (ba _ _),b0,b1⟩ fun w1 ⟨hb1,b0,b1⟩=> ?_
 have hB1:=Lib.hid hb1
 have H0:=Lib.hid b0
 have H1:=Lib.hid b1
 obtain⟨c0,-,c1,-,c2,-,c3,-,c4,-,z0⟩:=b0.x5
 have hby:Below w1.heap.size w1 w1.drew:=bdd (Below.refl _ _)
 clear b0 b1 hb1
 go_region_held3 (fun W=>W.cell? ⟨w.heap.size,0,none⟩=some (.int .i64 st)∧W.cell? ⟨w.heap.size,1,none⟩=some (.int .u32 ow)∧W.cell? ⟨w.heap.size,2,none⟩=some (.int .i64 ti)∧W.cell? ⟨w.heap.size,3,none⟩=some (.int .u64 se)∧W.cell? ⟨w.heap.size,4,none⟩=some (.int .u64 ep))
  (exact⟨by first|assumption|go_simp,by first|assumption|go_simp,by first|assumption|go_simp,by first|assumption|go_simp,by first|assumption|go_simp⟩)
  (first
   |(go_at_call 171;refine(C1.out _).mono ?_;rintro e w2 ⟨rfl,hb2⟩;have c0:=cell_later hb2 (show World.cell? _ ⟨w.heap.size,0,none⟩=some (.int .i64 st) from by first|exact c0|go_simp);have c1:=cell_later hb2 (show World.cell? _ ⟨w.heap.size,1,none⟩=some (.int .u32 ow) from by first|exact c1|go_simp);have c2:=cell_later hb2 (show World.cell? _ ⟨w.heap.size,2,none⟩=some (.int .i64 ti) from by first|exact c2|go_simp);have c3:=cell_later hb2 (show World.cell? _ ⟨w.heap.size,3,none⟩=some (.int .u64 se) from by first|exact c3|go_simp);have c4:=cell_later hb2 (show World.cell? _ ⟨w.heap.size,4,none⟩=some (.int .u64 ep) from by first|exact c4|go_simp);have z0:=Nat.lt_of_lt_of_le (show w.heap.size<_ from by first|exact z0|go_simp) hb2.size;have hby:=(show Below w1.heap.size w1 w2 from by first|exact bstep hby hb2|exact bstep (bal hby) hb2))
   |(go_at_call 172;refine(C2.out _).mono ?_;rintro e w3 ⟨rfl,hb3⟩;have c0:=cell_later hb3 (show World.cell? _ ⟨w.heap.size,0,none⟩=some (.int .i64 st) from by first|exact c0|go_simp);have c1:=cell_later hb3 (show World.cell? _ ⟨w.heap.size,1,none⟩=some (.int .u32 ow) from by first|exact c1|go_simp);have c2:=cell_later hb3 (show World.cell? _ ⟨w.heap.size,2,none⟩=some (.int .i64 ti) from by first|exact c2|go_simp);have c3:=cell_later hb3 (show World.cell? _ ⟨w.heap.size,3,none⟩=some (.int .u64 se) from by first|exact c3|go_simp);have c4:=cell_later hb3 (show World.cell? _ ⟨w.heap.size,4,none⟩=some (.int .u64 ep) from by first|exact c4|go_simp);have z0:=Nat.lt_of_lt_of_le (show w.heap.size<_ from by first|exact z0|go_simp) hb3.size;have hby:=(show Below w1.heap.size w1 w3 from by first|exact bstep hby hb3|exact bstep (bal hby) hb3))
   |(go_at_call 170;refine(C3.out _ _ ((Cells.new _ [.int .i64 E1,.int .i64 E2] _).c 0 _ rfl) ((Cells.new _ [.int .i64 E1,.int .i64 E2] _).c 1 _ rfl)).mono ?_;rintro e w4 ⟨rfl,hb4⟩;have c0:=cell_later hb4 (show World.cell? _ ⟨w.heap.size,0,none⟩=some (.int .i64 st) from by first|exact c0|go_simp);have c1:=cell_later hb4 (show World.cell? _ ⟨w.heap.size,1,none⟩=some (.int .u32 ow) from by first|exact c1|go_simp);have c2:=cell_later hb4 (show World.cell? _ ⟨w.heap.size,2,none⟩=some (.int .i64 ti) from by first|exact c2|go_simp);have c3:=cell_later hb4 (show World.cell? _ ⟨w.heap.size,3,none⟩=some (.int .u64 se) from by first|exact c3|go_simp);have c4:=cell_later hb4 (show World.cell? _ ⟨w.heap.size,4,none⟩=some (.int .u64 ep) from by first|exact c4|go_simp);have z0:=Nat.lt_of_lt_of_le (show w.heap.size<_ from by first|exact z0|go_simp) hb4.size;have hby:=(show Below w1.heap.size w1 w4 from by first|exact bstep hby hb4|exact bstep (bal hby) hb4))
   |fail)
 all_goals
  refine at_world (fun W=>Below w1.heap.size w1 W) hby fun w5 hby=> ?_
  have hB2:=Lib.hid (bstep hB1.out hby)
  have H02:=Lib.hid (H0.out.later hby)
  have H12:=Lib.hid (H1.out.later hby)
  replace hby:=trivial
  clear c0 c1 c2 c3 c4 z0
  obtain⟨c0,f0,c1,f1,c2,f2,c3,f3,c4,f4,z0⟩:=H02.out.x5
  obtain⟨d0,g0,d1,g1,d2,g2,d3,g3,d4,g4,z1⟩:=H12.out.x5
  by_cases h:E=0
  ·subst h
   obtain rfl:M=(⟨1,owner,d,se,ep⟩,0):=by rw[hT.out];simp
   clear hT
   go_upto_region 5 with fail
   have bX:=((H02.out.set 0 (.int .i64 1)).set 1 (.int .u32 owner)).set 2 (.int .i64 d)
   have bY:=((H12.out.other (B':=w.heap.size) (i:=0) (by omega) (.int .i64 1)).other (B':=w.heap.size) (i:=1) (by omega) (.int .u32 owner)).other (B':=w.heap.size) (i:=2) (by omega) (.int .i64 d)
   have hX:=((hB2.out.setCell (p:=⟨w.heap.size,0,none⟩) (by dsimp only;omega) (.int .i64 1)).setCell (p:=⟨w.heap.size,1,none⟩) (by dsimp only;omega) (.int .u32 owner)).setCell (p:=⟨w.heap.size,2,none⟩) (by dsimp only;omega) (.int .i64 d)
   refine at_world (fun W=>Below w.heap.size w W∧BoxN W w.heap.size 81 #[.int .i64 1,.int .u32 owner,.int .i64 d,.int .u64 se,.int .u64 ep]∧BoxN W (w.heap.size+1) 81 #[.int .i64 0,.int .u32 0,.int .i64 0,.int .u64 0,.int .u64 0]) ⟨hX,bX,bY⟩ fun w6 ⟨hX,bX,bY⟩=> ?_
   have hB3:=Lib.hid hX
   have H03:=Lib.hid bX
   have H13:=Lib.hid bY
   clear hX bX bY c0 c1 c2 c3 c4 d0 d1 d2 d3 d4 f0 f1 f2 f3 f4 g0 g1 g2 g3 g4 z0 z1
   obtain⟨c0,f0,c1,f1,c2,f2,c3,f3,c4,f4,-⟩:=H03.out.x5
   obtain⟨d0,g0,d1,g1,d2,g2,d3,g3,d4,g4,-⟩:=H13.out.x5
   have z0:=H03.out.lt
   have z1:=H13.out.lt
   go_wp2_with fail
   have b':=(((((H13.out.set 0 (.int .i64 1)).set 1 (.int .u32 owner)).set 2 (.int .i64 d)).set 3 (.int .u64 se)).set 4 (.int .u64 ep))
   have hB':=(((((hB3.out.setCell (p:=⟨w.heap.size+1,0,none⟩) (by dsimp only;omega) (.int .i64 1)).setCell (p:=⟨w.heap.size+1,1,none⟩) (by dsimp only;omega) (.int .u32 owner)).setCell (p:=⟨w.heap.size+1,2,none⟩) (by dsimp only;omega) (.int .i64 d)).setCell (p:=⟨w.heap.size+1,3,none⟩) (by dsimp only;omega) (.int .u64 se)).setCell (p:=⟨w.heap.size+1,4,none⟩) (by dsimp only;omega) (.int .u64 ep))
   have gg:=b'.x5
   exact bodyPost_ret (v:=.tuple #[.agg #[.int .i64 1,.int .u32 owner,.int .i64 d,.int .u64 se,.int .u64 ep],.int .i64 0]) (by simp[results,Tryz.results128,go_sem,gg]) rfl ⟨rfl,hB'⟩
  ·obtain rfl:M=(⟨st,ow,ti,se,ep⟩,E):=by rw[hT.out];simp[h]
   have t:(E !=0)=true:=by simpa using h
   clear hT h
   go_wp2_with fail
   have b':=(((((H12.out.set 0 (.int .i64 st)).set 1 (.int .u32 ow)).set 2 (.int .i64 ti)).set 3 (.int .u64 se)).set 4 (.int .u64 ep))
   have hB':=(((((hB2.out.setCell (p:=⟨w.heap.size+1,0,none⟩) (by dsimp only;omega) (.int .i64 st)).setCell (p:=⟨w.heap.size+1,1,none⟩) (by dsimp only;omega) (.int .u32 ow)).setCell (p:=⟨w.heap.size+1,2,none⟩) (by dsimp only;omega) (.int .i64 ti)).setCell (p:=⟨w.heap.size+1,3,none⟩) (by dsimp only;omega) (.int .u64 se)).setCell (p:=⟨w.heap.size+1,4,none⟩) (by dsimp only;omega) (.int .u64 ep))
   have gg:=b'.x5
   exact bodyPost_ret (v:=.tuple #[.agg #[.int .i64 st,.int .u32 ow,.int .i64 ti,.int .u64 se,.int .u64 ep],.int .i64 E]) (by simp[results,Tryz.results128,go_sem,gg]) rfl ⟨rfl,hB'⟩
set_option maxHeartbeats 2000000 in
theorem sxExpire_any (x:Sx) (d:Int) (w:World):Calls Tryz.prog 145 #[sxV x,.int .i64 d] w fun e w'=>e=.returned (.tuple #[sxV (sxExpire x d).1,.int .i64 (sxExpire x d).2])∧Below w.heap.size w w':=by
 have C1:=Lib.hid (sxTime_any x d)
 have C2:=Lib.hid (sxState_any x 1)
 have hT:=Lib.hid (show sxExpire x d=if orE (sxTime x d) (sxState x 1)≠0 then(x,orE (sxTime x d) (sxState x 1)) else if(passT x.till d).1 then(sxOpen x,0) else(x,9) from rfl)
 have C4:=Lib.hid (passed_any x.till d)
 have C5:=Lib.hid (sxOpen_any x)
 unfold sxV sxOpen at C5
 generalize passT x.till d=PT at C4 hT
 unfold sxV at C1 C2⊢
 generalize sxExpire x d=M at hT⊢
 generalize sxTime x d=E1 at C1 hT
 generalize sxState x 1=E2 at C2 hT
 obtain⟨st,ow,ti,se,ep⟩:=x
 simp only at C1 C2 hT⊢
 have C3:=Lib.hid (or2_any E1 E2)
 generalize orE E1 E2=E at C3 hT
 go_enter Tryz.func145,Tryz.ntmps145
 go_upto_region 1 with fail
 have b0:=(BoxN.new w 81 #[.int .i64 st,.int .u32 ow,.int .i64 ti,.int .u64 se,.int .u64 ep]).alloc (.cells #[.int .i64 0,.int .u32 0,.int .i64 0,.int .u64 0,.int .u64 0] 81)
 have b1:=BoxN.new (w.alloc (.cells #[.int .i64 st,.int .u32 ow,.int .i64 ti,.int .u64 se,.int .u64 ep] 81)) 81 #[.int .i64 0,.int .u32 0,.int .i64 0,.int .u64 0,.int .u64 0]
 rw[World.size_alloc] at b1
 refine at_world (fun W=>Below w.heap.size w W∧BoxN W w.heap.size 81 #[.int .i64 st,.int .u32 ow,.int .i64 ti,.int .u64 se,.int .u64 ep]∧BoxN W (w.heap.size+1) 81 #[.int .i64 0,.int .u32 0,.int .i64 0,.int .u64 0,.int .u64 0])
  ⟨bal (ba _ _),b0,b1⟩ fun w1 ⟨hb1,b0,b1⟩=> ?_
 have hB1:=Lib.hid hb1
 have H0:=Lib.hid b0
 have H1:=Lib.hid b1
 obtain⟨c0,-,c1,-,c2,-,c3,-,c4,-,z0⟩:=b0.x5
 have hby:Below w1.heap.size w1 w1.drew:=bdd (Below.refl _ _)
 clear b0 b1 hb1
 go_region_held3 (fun W=>W.cell? ⟨w.heap.size,0,none⟩=some (.int .i64 st)∧W.cell? ⟨w.heap.size,1,none⟩=some (.int .u32 ow)∧W.cell? ⟨w.heap.size,2,none⟩=some (.int .i64 ti)∧W.cell? ⟨w.heap.size,3,none⟩=some (.int .u64 se)∧W.cell? ⟨w.heap.size,4,none⟩=some (.int .u64 ep))
  (exact⟨by first|assumption|go_simp,by first|assumption|go_simp,by first|assumption|go_simp,by first|assumption|go_simp,by first|assumption|go_simp⟩)
  (first
   |(go_at_call 171;refine(C1.out _).mono ?_;rintro e w2 ⟨rfl,hb2⟩;have c0:=cell_later hb2 (show World.cell? _ ⟨w.heap.size,0,none⟩=some (.int .i64 st) from by first|exact c0|go_simp);have c1:=cell_later hb2 (show World.cell? _ ⟨w.heap.size,1,none⟩=some (.int .u32 ow) from by first|exact c1|go_simp);have c2:=cell_later hb2 (show World.cell? _ ⟨w.heap.size,2,none⟩=some (.int .i64 ti) from by first|exact c2|go_simp);have c3:=cell_later hb2 (show World.cell? _ ⟨w.heap.size,3,none⟩=some (.int .u64 se) from by first|exact c3|go_simp);have c4:=cell_later hb2 (show World.cell? _ ⟨w.heap.size,4,none⟩=some (.int .u64 ep) from by first|exact c4|go_simp);have z0:=Nat.lt_of_lt_of_le (show w.heap.size<_ from by first|exact z0|go_simp) hb2.size;have hby:=(show Below w1.heap.size w1 w2 from by first|exact bstep hby hb2|exact bstep (bal hby) hb2))
   |(go_at_call 172;refine(C2.out _).mono ?_;rintro e w3 ⟨rfl,hb3⟩;have c0:=cell_later hb3 (show World.cell? _ ⟨w.heap.size,0,none⟩=some (.int .i64 st) from by first|exact c0|go_simp);have c1:=cell_later hb3 (show World.cell? _ ⟨w.heap.size,1,none⟩=some (.int .u32 ow) from by first|exact c1|go_simp);have c2:=cell_later hb3 (show World.cell? _ ⟨w.heap.size,2,none⟩=some (.int .i64 ti) from by first|exact c2|go_simp);have c3:=cell_later hb3 (show World.cell? _ ⟨w.heap.size,3,none⟩=some (.int .u64 se) from by first|exact c3|go_simp);have c4:=cell_later hb3 (show World.cell? _ ⟨w.heap.size,4,none⟩=some (.int .u64 ep) from by first|exact c4|go_simp);have z0:=Nat.lt_of_lt_of_le (show w.heap.size<_ from by first|exact z0|go_simp) hb3.size;have hby:=(show Below w1.heap.size w1 w3 from by first|exact bstep hby hb3|exact bstep (bal hby) hb3))
   |(go_at_call 170;refine(C3.out _ _ ((Cells.new _ [.int .i64 E1,.int .i64 E2] _).c 0 _ rfl) ((Cells.new _ [.int .i64 E1,.int .i64 E2] _).c 1 _ rfl)).mono ?_;rintro e w4 ⟨rfl,hb4⟩;have c0:=cell_later hb4 (show World.cell? _ ⟨w.heap.size,0,none⟩=some (.int .i64 st) from by first|exact c0|go_simp);have c1:=cell_later hb4 (show World.cell? _ ⟨w.heap.size,1,none⟩=some (.int .u32 ow) from by first|exact c1|go_simp);have c2:=cell_later hb4 (show World.cell? _ ⟨w.heap.size,2,none⟩=some (.int .i64 ti) from by first|exact c2|go_simp);have c3:=cell_later hb4 (show World.cell? _ ⟨w.heap.size,3,none⟩=some (.int .u64 se) from by first|exact c3|go_simp);have c4:=cell_later hb4 (show World.cell? _ ⟨w.heap.size,4,none⟩=some (.int .u64 ep) from by first|exact c4|go_simp);have z0:=Nat.lt_of_lt_of_le (show w.heap.size<_ from by first|exact z0|go_simp) hb4.size;have hby:=(show Below w1.heap.size w1 w4 from by first|exact bstep hby hb4|exact bstep (bal hby) hb4))
   |fail)
 all_goals
  refine at_world (fun W=>Below w1.heap.size w1 W) hby fun w5 hby=> ?_
  have hB2:=Lib.hid (bstep hB1.out hby)
  have H02:=Lib.hid (H0.out.later hby)
  have H12:=Lib.hid (H1.out.later hby)
  replace hby:=trivial
  clear c0 c1 c2 c3 c4 z0
  obtain⟨c0,f0,c1,f1,c2,f2,c3,f3,c4,f4,z0⟩:=H02.out.x5
  obtain⟨d0,g0,d1,g1,d2,g2,d3,g3,d4,g4,z1⟩:=H12.out.x5
  by_cases h:E=0
  ·subst h
   cases hp:PT with
   |mk pb pe=>
    subst hp
    simp only at C4 hT
    cases pb with
    |true=>
     obtain rfl:M=(⟨0,0,0,se,ep⟩,0):=by rw[hT.out];simp[sxOpen]
     clear hT
     go_wp2_with fail
     refine(C4.out _).mono ?_
     rintro e w7 ⟨rfl,hb⟩
     have hB3:=Lib.hid (bstep hB2.out hb)
     have H03:=Lib.hid (H02.out.later hb)
     have H13:=Lib.hid (H12.out.later hb)
     clear hb c0 c1 c2 c3 c4 d0 d1 d2 d3 d4 f0 f1 f2 f3 f4 g0 g1 g2 g3 g4 z0 z1
     obtain⟨c0,f0,c1,f1,c2,f2,c3,f3,c4,f4,-⟩:=H03.out.x5
     obtain⟨d0,g0,d1,g1,d2,g2,d3,g3,d4,g4,-⟩:=H13.out.x5
     have z0:=H03.out.lt
     have z1:=H13.out.lt
     go_wp2_with fail
     refine(C5.out _).mono ?_
     rintro e w8 ⟨rfl,hb⟩
     have hB4:=Lib.hid (bstep hB3.out hb)
     have H04:=Lib.hid (H03.out.later hb)
     have H14:=Lib.hid (H13.out.later hb)
     clear hb c0 c1 c2 c3 c4 d0 d1 d2 d3 d4 f0 f1 f2 f3 f4 g0 g1 g2 g3 g4 z0 z1
     obtain⟨c0,f0,c1,f1,c2,f2,c3,f3,c4,f4,-⟩:=H04.out.x5
     obtain⟨d0,g0,d1,g1,d2,g2,d3,g3,d4,g4,-⟩:=H14.out.x5
     have z0:=H04.out.lt
     have z1:=H14.out.lt
     go_wp2_with fail
     have b':=(((((H14.out.set 0 (.int .i64 0)).set 1 (.int .u32 0)).set 2 (.int .i64 0)).set 3 (.int .u64 se)).set 4 (.int .u64 ep))
     have hB':=(((((hB4.out.setCell (p:=⟨w.heap.size+1,0,none⟩) (by dsimp only;omega) (.int .i64 0)).setCell (p:=⟨w.heap.size+1,1,none⟩) (by dsimp only;omega) (.int .u32 0)).setCell (p:=⟨w.heap.size+1,2,none⟩) (by dsimp only;omega) (.int .i64 0)).setCell (p:=⟨w.heap.size+1,3,none⟩) (by dsimp only;omega) (.int .u64 se)).setCell (p:=⟨w.heap.size+1,4,none⟩) (by dsimp only;omega) (.int .u64 ep))
     have gg:=b'.x5
     exact bodyPost_ret (v:=.tuple #[.agg #[.int .i64 0,.int .u32 0,.int .i64 0,.int .u64 se,.int .u64 ep],.int .i64 0]) (by simp[results,Tryz.results145,go_sem,gg]) rfl ⟨rfl,hB'⟩
    |false=>
     obtain rfl:M=(⟨st,ow,ti,se,ep⟩,9):=by rw[hT.out];simp
     clear hT
     go_wp2_with fail
     refine(C4.out _).mono ?_
     rintro e w7 ⟨rfl,hb⟩
     have hB3:=Lib.hid (bstep hB2.out hb)
     have H03:=Lib.hid (H02.out.later hb)
     have H13:=Lib.hid (H12.out.later hb)
     clear hb c0 c1 c2 c3 c4 d0 d1 d2 d3 d4 f0 f1 f2 f3 f4 g0 g1 g2 g3 g4 z0 z1
     obtain⟨c0,f0,c1,f1,c2,f2,c3,f3,c4,f4,-⟩:=H03.out.x5
     obtain⟨d0,g0,d1,g1,d2,g2,d3,g3,d4,g4,-⟩:=H13.out.x5
     have z0:=H03.out.lt
     have z1:=H13.out.lt
     go_wp2_with fail
     have b':=(((((H13.out.set 0 (.int .i64 st)).set 1 (.int .u32 ow)).set 2 (.int .i64 ti)).set 3 (.int .u64 se)).set 4 (.int .u64 ep))
     have hB':=(((((hB3.out.setCell (p:=⟨w.heap.size+1,0,none⟩) (by dsimp only;omega) (.int .i64 st)).setCell (p:=⟨w.heap.size+1,1,none⟩) (by dsimp only;omega) (.int .u32 ow)).setCell (p:=⟨w.heap.size+1,2,none⟩) (by dsimp only;omega) (.int .i64 ti)).setCell (p:=⟨w.heap.size+1,3,none⟩) (by dsimp only;omega) (.int .u64 se)).setCell (p:=⟨w.heap.size+1,4,none⟩) (by dsimp only;omega) (.int .u64 ep))
     have gg:=b'.x5
     exact bodyPost_ret (v:=.tuple #[.agg #[.int .i64 st,.int .u32 ow,.int .i64 ti,.int .u64 se,.int .u64 ep],.int .i64 9]) (by simp[results,Tryz.results145,go_sem,gg]) rfl ⟨rfl,hB'⟩
  ·obtain rfl:M=(⟨st,ow,ti,se,ep⟩,E):=by rw[hT.out];simp[h]
   have t:(E !=0)=true:=by simpa using h
   clear hT h
   go_wp2_with fail
   have b':=(((((H12.out.set 0 (.int .i64 st)).set 1 (.int .u32 ow)).set 2 (.int .i64 ti)).set 3 (.int .u64 se)).set 4 (.int .u64 ep))
   have hB':=(((((hB2.out.setCell (p:=⟨w.heap.size+1,0,none⟩) (by dsimp only;omega) (.int .i64 st)).setCell (p:=⟨w.heap.size+1,1,none⟩) (by dsimp only;omega) (.int .u32 ow)).setCell (p:=⟨w.heap.size+1,2,none⟩) (by dsimp only;omega) (.int .i64 ti)).setCell (p:=⟨w.heap.size+1,3,none⟩) (by dsimp only;omega) (.int .u64 se)).setCell (p:=⟨w.heap.size+1,4,none⟩) (by dsimp only;omega) (.int .u64 ep))
   have gg:=b'.x5
   exact bodyPost_ret (v:=.tuple #[.agg #[.int .i64 st,.int .u32 ow,.int .i64 ti,.int .u64 se,.int .u64 ep],.int .i64 E]) (by simp[results,Tryz.results145,go_sem,gg]) rfl ⟨rfl,hB'⟩
end Go.Proofs.YtlckmjiioohcmaaGreatDoor
