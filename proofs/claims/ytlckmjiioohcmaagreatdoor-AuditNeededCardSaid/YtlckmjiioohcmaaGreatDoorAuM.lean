/-
  Walks of the closures of the audit reader's method rules: valid, taken, holder. Conditions: as each theorem says.
-/
import Derived.Test.YtlckmjiioohcmaaGreatDoorAuL
import Derived.Test.YtlckmjiioohcmaaGreatDoorAuB
namespace Go.Proofs.YtlckmjiioohcmaaGreatDoor
open Go.RowKit
def validB (seats:List Se) (op:MOp):Bool:=isB [6,7,9] op.kind&& !validA seats op.tk
def chosenL (seats:List Se) (op:MOp) (rp:MRp):List Se:=if isB [3] op.kind then(seats.drop rp.seat.toNat).take rp.n.toNat else(seats.drop op.seat.toNat).take 1
def takenA (seats:List Se) (op:MOp) (rp:MRp):Bool:=isB [2,3] op.kind&&(chosenL seats op rp).any fun x=>x.sold||x.held
def holderA (seats:List Se) (op:MOp):Bool:=isB [4,5] op.kind&&match seats[op.seat.toNat]? with
 |some x=>x.sold||(x.held&&x.owner !=op.owner)
 |none=>false
theorem Rd.validC {W:World} {g:Nat} {F:Frm} {s:Au} {op:MOp} {rp:MRp} (h:Rd W g F s op rp) (w:World) (hw:Below W.heap.size W w):
 Calls Tryz.prog 116 #[.pointer (some ⟨g,0,none⟩)] w fun e w'=>e=.returned (.bool (validA s.seats op.tk))∧Below w.heap.size w w':=
 valid_any g op.tk F.A F.ac s.seats w ((h.up hw).cs.c 14 _ rfl) ((h.up hw).cs.c 15 _ rfl) ((h.up hw).cs.c 16 _ rfl) ((h.up hw).cs.c 17 _ rfl) ((h.up hw).cs.c 5 _ rfl) (h.up hw).ss h.bo.2.2.2.2.2.2.2.1.1
set_option maxHeartbeats 2000000 in
theorem validB_any {W:World} {g:Nat} {F:Frm} {s:Au} {op:MOp} {rp:MRp} (R:Rd W g F s op rp) {B:Nat} (hB:W.cell? ⟨B,0,none⟩=some (.pointer (some ⟨g,0,none⟩))):
 Calls Tryz.prog 160 #[.pointer (some ⟨B,0,none⟩)] W fun e w'=>e=.returned (.bool (validB s.seats op))∧Below W.heap.size W w':=by
 have hT:=Lib.hid (show validB s.seats op=(isB [6,7,9] op.kind&& !validA s.seats op.tk) from rfl)
 generalize validB s.seats op=M at hT⊢
 have C1:=Lib.hid (R.isC [6,7,9] (by simp[Bd]) (by simp))
 have C2:=Lib.hid R.validC
 generalize isB [6,7,9] op.kind=q1 at C1 hT
 generalize validA s.seats op.tk=q2 at C2 hT
 have yB:=World.block_lt_of_cell? _ _ hB
 have RH:=Lib.hid R
 clear R
 cases q1 with
 |true=>
  go_enter Tryz.func160,Tryz.ntmps160
  go_wp2_with fail
  refine(C1.out _ _ (Below.refl _ _) rfl).mono ?_
  rintro e w1 ⟨rfl,hb⟩
  have HB:=Lib.hid hb
  have cB:=cell_later hb hB
  have yb:B<w1.heap.size:=Nat.lt_of_lt_of_le yB hb.size
  clear hb
  go_wp2_with fail
  refine(C2.out _ HB.out).mono ?_
  rintro e w2 ⟨rfl,hb⟩
  go_wp2_with fail
  go_ret
  exact⟨ret_bool hT.out.symm,HB.out.trans (hb.mono HB.out.size)⟩
 |false=>
  go_enter Tryz.func160,Tryz.ntmps160
  go_wp2_with fail
  refine(C1.out _ _ (Below.refl _ _) rfl).mono ?_
  rintro e w1 ⟨rfl,hb⟩
  have HB:=Lib.hid hb
  have cB:=cell_later hb hB
  have yb:B<w1.heap.size:=Nat.lt_of_lt_of_le yB hb.size
  clear hb
  go_wp2_with fail
  go_ret
  exact⟨ret_bool hT.out.symm,HB.out⟩
set_option maxHeartbeats 2000000 in
theorem takenN_any {W:World} {g:Nat} {F:Frm} {s:Au} {op:MOp} {rp:MRp} (R:Rd W g F s op rp) {B:Nat} (hB:W.cell? ⟨B,0,none⟩=some (.pointer (some ⟨g,0,none⟩))) (hq:isB [2,3] op.kind=false):
 Calls Tryz.prog 157 #[.pointer (some ⟨B,0,none⟩)] W fun e w'=>e=.returned (.bool (takenA s.seats op rp))∧Below W.heap.size W w':=by
 have hT:=Lib.hid (show takenA s.seats op rp=false by simp[takenA,hq])
 generalize takenA s.seats op rp=M at hT⊢
 have C1:=Lib.hid (R.isC [2,3] (by simp[Bd]) (by simp))
 rw[hq] at C1
 clear hq
 have yB:=World.block_lt_of_cell? _ _ hB
 have RH:=Lib.hid R
 clear R
 go_enter Tryz.func157,Tryz.ntmps157
 go_wp2_with fail
 refine(C1.out _ _ (Below.refl _ _) rfl).mono ?_
 rintro e w1 ⟨rfl,hb⟩
 go_wp2_with fail
 go_ret
 exact⟨ret_bool hT.out.symm,hb⟩
set_option maxHeartbeats 4000000 in
theorem takenB_any {W:World} {g:Nat} {F:Frm} {s:Au} {op:MOp} {rp:MRp} (R:Rd W g F s op rp) {B:Nat} (hB:W.cell? ⟨B,0,none⟩=some (.pointer (some ⟨g,0,none⟩))) (hq:isB [2,3] op.kind=true) (hq3:isB [3] op.kind=true) {k m:Nat} (h1:rp.seat=(k:Int)) (h2:rp.n=(m:Int)) (h3:k+m≤s.seats.length) (h4:1≤m):
 Calls Tryz.prog 157 #[.pointer (some ⟨B,0,none⟩)] W fun e w'=>e=.returned (.bool (takenA s.seats op rp))∧Below W.heap.size W w':=by
 obtain⟨b,off,hA,_⟩:=R.ss.atE (k:=k) (by omega)
 have hs:=R.ss
 rw[hA] at hs
 replace hs:=Lib.hid (hs.part (k:=k) (m:=m) (by omega) rfl rfl)
 have hT:=Lib.hid (show takenA s.seats op rp=((s.seats.drop k).take m).any fun x=>x.sold||x.held by simp[takenA,chosenL,hq,hq3,h1,h2])
 generalize takenA s.seats op rp=M at hT⊢
 have C1:=Lib.hid (R.isC [2,3] (by simp[Bd]) (by simp))
 have C2:=Lib.hid (fun w (hb:Below W.heap.size W w)=>chosenB_any (R.up hb) hq3 hA h1 h2 h3 h4)
 have eg:=enters_fn Tryz.func158 (by kernel_rfl) rfl
 have C3:=Lib.hid (fun w (hb:Below W.heap.size W w)=>containsFuncE_any (fun x=>x.sold||x.held) 158 #[] eg _ ((s.seats.drop k).take m) w (hs.out.up hb) fun W1 x _ _=>taken1_any x W1)
 clear eg
 rw[hq] at C1
 clear hq hq3
 generalize((s.seats.drop k).take m).any (fun x=>x.sold||x.held)=q2 at C3 hT
 have yB:=World.block_lt_of_cell? _ _ hB
 have RH:=Lib.hid R
 clear R
 go_enter Tryz.func157,Tryz.ntmps157
 go_wp2_with fail
 refine(C1.out _ _ (Below.refl _ _) rfl).mono ?_
 rintro e w1 ⟨rfl,hb⟩
 have HB:=Lib.hid hb
 have cB:=cell_later hb hB
 have yb:B<w1.heap.size:=Nat.lt_of_lt_of_le yB hb.size
 clear hb
 go_wp2_with fail
 refine(C2.out _ HB.out).mono ?_
 rintro e w2 ⟨rfl,hb⟩
 replace HB:=Lib.hid (HB.out.trans (hb.mono HB.out.size))
 clear hb cB yb
 go_wp2_with fail
 refine(C3.out _ HB.out).mono ?_
 rintro e w3 ⟨rfl,hb⟩
 go_wp2_with fail
 go_ret
 exact⟨ret_bool hT.out.symm,HB.out.trans (hb.mono HB.out.size)⟩
set_option maxHeartbeats 4000000 in
theorem takenS_any {W:World} {g:Nat} {F:Frm} {s:Au} {op:MOp} {rp:MRp} (R:Rd W g F s op rp) {B:Nat} (hB:W.cell? ⟨B,0,none⟩=some (.pointer (some ⟨g,0,none⟩))) (hq:isB [2,3] op.kind=true) (hq3:isB [3] op.kind=false) {k:Nat} (h1:op.seat=(k:Int)) (h3:k<s.seats.length):
 Calls Tryz.prog 157 #[.pointer (some ⟨B,0,none⟩)] W fun e w'=>e=.returned (.bool (takenA s.seats op rp))∧Below W.heap.size W w':=by
 obtain⟨b,off,hA,_⟩:=R.ss.atE (k:=k) (by omega)
 have hs:=R.ss
 rw[hA] at hs
 replace hs:=Lib.hid (hs.part (k:=k) (m:=1) (by omega) rfl rfl)
 have hT:=Lib.hid (show takenA s.seats op rp=((s.seats.drop k).take 1).any fun x=>x.sold||x.held by simp[takenA,chosenL,hq,hq3,h1])
 generalize takenA s.seats op rp=M at hT⊢
 have C1:=Lib.hid (R.isC [2,3] (by simp[Bd]) (by simp))
 have C2:=Lib.hid (fun w (hb:Below W.heap.size W w)=>chosenS_any (R.up hb) hq3 hA h1 h3)
 have eg:=enters_fn Tryz.func158 (by kernel_rfl) rfl
 have C3:=Lib.hid (fun w (hb:Below W.heap.size W w)=>containsFuncE_any (fun x=>x.sold||x.held) 158 #[] eg _ ((s.seats.drop k).take 1) w (hs.out.up hb) fun W1 x _ _=>taken1_any x W1)
 clear eg
 rw[hq] at C1
 clear hq hq3
 generalize((s.seats.drop k).take 1).any (fun x=>x.sold||x.held)=q2 at C3 hT
 have yB:=World.block_lt_of_cell? _ _ hB
 have RH:=Lib.hid R
 clear R
 go_enter Tryz.func157,Tryz.ntmps157
 go_wp2_with fail
 refine(C1.out _ _ (Below.refl _ _) rfl).mono ?_
 rintro e w1 ⟨rfl,hb⟩
 have HB:=Lib.hid hb
 have cB:=cell_later hb hB
 have yb:B<w1.heap.size:=Nat.lt_of_lt_of_le yB hb.size
 clear hb
 go_wp2_with fail
 refine(C2.out _ HB.out).mono ?_
 rintro e w2 ⟨rfl,hb⟩
 replace HB:=Lib.hid (HB.out.trans (hb.mono HB.out.size))
 clear hb cB yb
 go_wp2_with fail
 refine(C3.out _ HB.out).mono ?_
 rintro e w3 ⟨rfl,hb⟩
 go_wp2_with fail
 go_ret
 exact⟨ret_bool hT.out.symm,HB.out.trans (hb.mono HB.out.size)⟩
set_option maxHeartbeats 2000000 in
theorem holderN_any {W:World} {g:Nat} {F:Frm} {s:Au} {op:MOp} {rp:MRp} (R:Rd W g F s op rp) {B:Nat} (hB:W.cell? ⟨B,0,none⟩=some (.pointer (some ⟨g,0,none⟩))) (hq:isB [4,5] op.kind=false):
 Calls Tryz.prog 159 #[.pointer (some ⟨B,0,none⟩)] W fun e w'=>e=.returned (.bool (holderA s.seats op))∧Below W.heap.size W w':=by
 have hT:=Lib.hid (show holderA s.seats op=false by simp[holderA,hq])
 generalize holderA s.seats op=M at hT⊢
 have C1:=Lib.hid (R.isC [4,5] (by simp[Bd]) (by simp))
 rw[hq] at C1
 clear hq
 have yB:=World.block_lt_of_cell? _ _ hB
 have RH:=Lib.hid R
 clear R
 go_enter Tryz.func159,Tryz.ntmps159
 go_wp2_with fail
 refine(C1.out _ _ (Below.refl _ _) rfl).mono ?_
 rintro e w1 ⟨rfl,hb⟩
 go_wp2_with fail
 go_ret
 exact⟨ret_bool hT.out.symm,hb⟩
set_option maxHeartbeats 4000000 in
theorem holderY_any {W:World} {g:Nat} {F:Frm} {s:Au} {op:MOp} {rp:MRp} (R:Rd W g F s op rp) {B:Nat} (hB:W.cell? ⟨B,0,none⟩=some (.pointer (some ⟨g,0,none⟩))) (hq:isB [4,5] op.kind=true) {k:Nat} (hk:op.seat=(k:Int)) (hlt:k<s.seats.length):
 Calls Tryz.prog 159 #[.pointer (some ⟨B,0,none⟩)] W fun e w'=>e=.returned (.bool (holderA s.seats op))∧Below W.heap.size W w':=by
 obtain⟨b,off,hA,hbl,d0,d1,d2,d3,d4,d5,_,_,_,_⟩:=R.ss.atE hlt
 have hT:=Lib.hid (show holderA s.seats op=(s.seats[k].sold||(s.seats[k].held&&s.seats[k].owner !=op.owner)) by simp[holderA,hq,hk,List.getElem?_eq_getElem hlt])
 generalize holderA s.seats op=M at hT⊢
 generalize s.seats[k]=x at d0 d1 d2 d3 d4 d5 hT
 obtain⟨so,he,ow,ti,se,ep⟩:=x
 dsimp only at d0 d1 d2 d3 d4 d5 hT
 have C1:=Lib.hid (R.isC [4,5] (by simp[Bd]) (by simp))
 rw[hq] at C1
 clear hq
 have yB:=World.block_lt_of_cell? _ _ hB
 have RH:=Lib.hid R
 clear R
 go_enter Tryz.func159,Tryz.ntmps159
 go_wp2_with fail
 refine(C1.out _ _ (Below.refl _ _) rfl).mono ?_
 rintro e w1 ⟨rfl,hb⟩
 have R1:=RH.out.up hb
 have cB:=cell_later hb hB
 have c5:=R1.cs.c 5 _ rfl
 have c10:=R1.cs.c 10 _ rfl
 rw[hA] at c5
 rw[hk] at c10
 replace d0:=cell_later hb d0
 replace d1:=cell_later hb d1
 replace d2:=cell_later hb d2
 replace d3:=cell_later hb d3
 replace d4:=cell_later hb d4
 replace d5:=cell_later hb d5
 have y1:=R1.cs.lt
 have y2:b<w1.heap.size:=Nat.lt_of_lt_of_le hbl hb.size
 have y3:B<w1.heap.size:=Nat.lt_of_lt_of_le yB hb.size
 have HB:=Lib.hid hb
 have HC:=Lib.hid cB
 clear hb R1 C1
 go_wp2_with fail
 go_region_held3 (fun w=>w.cell? ⟨B,0,none⟩=some (.pointer (some ⟨g,0,none⟩))∧w.cell? ⟨g,5,none⟩=some (.slice (some ⟨b,off,none⟩) s.seats.length F.ac)∧w.cell? ⟨g,10,none⟩=some (.int .i64 (k:Int))∧w.cell? ⟨b,off+k*6,none⟩=some (.bool so)∧w.cell? ⟨b,off+k*6+1,none⟩=some (.bool he)∧w.cell? ⟨b,off+k*6+2,none⟩=some (.int .u32 ow)∧w.cell? ⟨b,off+k*6+3,none⟩=some (.int .i64 ti)∧w.cell? ⟨b,off+k*6+4,none⟩=some (.int .u64 se)∧w.cell? ⟨b,off+k*6+5,none⟩=some (.int .u64 ep))
  (exact⟨by first|assumption|go_simp,by first|assumption|go_simp,by first|assumption|go_simp,by first|assumption|go_simp,by first|assumption|go_simp,by first|assumption|go_simp,by first|assumption|go_simp,by first|assumption|go_simp,by first|assumption|go_simp⟩)
  (first|fail)
 clear d0 d1 d2 d3 d4 d5 c5 c10 cB
 have hY:=Lib.hid (bdd (bal (o:=.cells #[.bool so,.bool he,.int .u32 ow,.int .i64 ti,.int .u64 se,.int .u64 ep] 107) HB.out))
 have hZ:=Lib.hid (bdd (bal (o:=.cells #[.bool so,.bool he,.int .u32 ow,.int .i64 ti,.int .u64 se,.int .u64 ep] 107) (Below.refl w1.heap.size w1)))
 refine at_world (fun w=>Below W.heap.size W w∧Below w1.heap.size w1 w∧Cells w w1.heap.size [.bool so,.bool he,.int .u32 ow,.int .i64 ti,.int .u64 se,.int .u64 ep]) ⟨hY.out,hZ.out,(Cells.new _ _ _).drew⟩ fun W2 ⟨hb2,hb3,s2⟩=> ?_
 have HB2:=Lib.hid hb2
 have t0:=s2.c 0 _ rfl
 have t1:=s2.c 1 _ rfl
 have t2:=s2.c 2 _ rfl
 have z1:=s2.lt
 have cB:=cell_later hb3 HC.out
 have c8:=(RH.out.up hb2).cs.c 8 _ rfl
 have yg:=(RH.out.up hb2).cs.lt
 have yb:B<W2.heap.size:=Nat.lt_of_lt_of_le y3 hb3.size
 clear hb2 hb3 s2 hY hZ RH HC HB y1 y2 y3 hB yB
 cases so with
 |true=>
  go_wp2_with fail
  go_quiet (fail)
  go_wp2_with fail
  go_ret
  exact⟨ret_bool hT.out.symm,bdN HB2.out _⟩
 |false=>
  cases he with
  |true=>
   go_wp2_with fail
   go_quiet (fail)
   go_wp2_with fail
   go_ret
   exact⟨ret_bool hT.out.symm,bdN HB2.out _⟩
  |false=>
   go_wp2_with fail
   go_quiet (fail)
   go_wp2_with fail
   go_ret
   exact⟨ret_bool hT.out.symm,bdN HB2.out _⟩
end Go.Proofs.YtlckmjiioohcmaaGreatDoor
