/-
  Walks of the closures of the audit reader's method rules: session, owner, clock, sold. Conditions: as each theorem says.
-/
import Derived.Test.YtlckmjiioohcmaaGreatDoorAuJ
import Derived.Test.YtlckmjiioohcmaaGreatDoorLib
namespace Go.Proofs.YtlckmjiioohcmaaGreatDoor
open Go.RowKit
def sessionA (s:Au) (op:MOp):Bool:= !isB [1,9,12] op.kind&&decide (op.till≤s.now)
def ownerA (op:MOp):Bool:=(isB [8] op.kind&&op.owner !=0)||(isB [6,7] op.kind&&op.tk.owner !=op.owner)
def clockA (s:Au) (op:MOp):Bool:=isB [12] op.kind&&decide (op.now<s.now)
def soldA (seats:List Se) (op:MOp):Bool:=isB [8] op.kind&&match seats[op.seat.toNat]? with
 |some x=> !x.sold||x.epoch==18446744073709551615
 |none=>false
set_option maxHeartbeats 2000000 in
theorem session_any {W:World} {g:Nat} {F:Frm} {s:Au} {op:MOp} {rp:MRp} (R:Rd W g F s op rp) {B:Nat} (hB:W.cell? ⟨B,0,none⟩=some (.pointer (some ⟨g,0,none⟩))):
 Calls Tryz.prog 152 #[.pointer (some ⟨B,0,none⟩)] W fun e w'=>e=.returned (.bool (sessionA s op))∧Below W.heap.size W w':=by
 have hT:=Lib.hid (show sessionA s op=(!isB [1,9,12] op.kind&&decide (op.till≤s.now)) from rfl)
 generalize sessionA s op=M at hT⊢
 have C1:=Lib.hid (R.isC [1,9,12] (by simp[Bd]) (by simp))
 generalize isB [1,9,12] op.kind=q1 at C1 hT
 have yB:=World.block_lt_of_cell? _ _ hB
 have RH:=Lib.hid R
 clear R
 cases q1 with
 |true=>
  go_enter Tryz.func152,Tryz.ntmps152
  go_wp2_with fail
  refine any_start (by kernel_rfl) ?_
  refine any_two 0 3 (by kernel_rfl) fun K hK=>⟨?_, ?_⟩
  ·go_wp2_with (go_at_call 115;refine(C1.out _ _ (bdd (Below.refl _ _)) rfl).mono ?_;rintro e w9 ⟨rfl,hb9⟩)
   have hbX:Below W.heap.size W w9:=(bdd (Below.refl _ _)).trans hb9
   refine hK.out _ _ ?_
   clear hK K
   refine any_rest 5 (by kernel_rfl) ?_
   simp only[List.drop_succ_cons,List.drop_zero]
   have R1:=RH.out.up hbX
   have cB:=gro_cell (cell_later hbX hB)
   have c9:=gro_cell (R1.cs.c 9 _ rfl)
   have c4:=gro_cell (R1.cs.c 4 _ rfl)
   have yg:=R1.cs.lt
   have yb:B<w9.heap.size:=Nat.lt_of_lt_of_le yB hbX.size
   have HX:=Lib.hid hbX
   clear R1 RH hbX hb9 C1 hB yB
   repeat(go_big_quiet_step (fail))
   refine wpQuiet_nil ?_
   refine gro_end fun W2 hb2=> ?_
   go_wp2_with fail
   go_ret
   exact⟨ret_bool (hT.out.symm),HX.out.trans (hb2.mono HX.out.size)⟩
  ·go_wp2_with (go_at_call 115;refine(C1.out _ _ (bdd (Below.refl _ _)) rfl).mono ?_;rintro e w9 ⟨rfl,hb9⟩)
   have hbX:Below W.heap.size W w9:=(bdd (Below.refl _ _)).trans hb9
   refine hK.out _ _ ?_
   clear hK K
   refine any_rest 5 (by kernel_rfl) ?_
   simp only[List.drop_succ_cons,List.drop_zero]
   have R1:=RH.out.up hbX
   have cB:=gro_cell (cell_later hbX hB)
   have c9:=gro_cell (R1.cs.c 9 _ rfl)
   have c4:=gro_cell (R1.cs.c 4 _ rfl)
   have yg:=R1.cs.lt
   have yb:B<w9.heap.size:=Nat.lt_of_lt_of_le yB hbX.size
   have HX:=Lib.hid hbX
   clear R1 RH hbX hb9 C1 hB yB
   repeat(go_big_quiet_step (fail))
   refine wpQuiet_nil ?_
   refine gro_end fun W2 hb2=> ?_
   go_wp2_with fail
   go_ret
   exact⟨ret_bool (hT.out.symm),HX.out.trans (hb2.mono HX.out.size)⟩
 |false=>
  go_enter Tryz.func152,Tryz.ntmps152
  go_wp2_with fail
  refine any_start (by kernel_rfl) ?_
  refine any_two 0 3 (by kernel_rfl) fun K hK=>⟨?_, ?_⟩
  ·go_wp2_with (go_at_call 115;refine(C1.out _ _ (bdd (Below.refl _ _)) rfl).mono ?_;rintro e w9 ⟨rfl,hb9⟩)
   have hbX:Below W.heap.size W w9:=(bdd (Below.refl _ _)).trans hb9
   refine hK.out _ _ ?_
   clear hK K
   refine any_rest 5 (by kernel_rfl) ?_
   simp only[List.drop_succ_cons,List.drop_zero]
   have R1:=RH.out.up hbX
   have cB:=gro_cell (cell_later hbX hB)
   have c9:=gro_cell (R1.cs.c 9 _ rfl)
   have c4:=gro_cell (R1.cs.c 4 _ rfl)
   have yg:=R1.cs.lt
   have yb:B<w9.heap.size:=Nat.lt_of_lt_of_le yB hbX.size
   have HX:=Lib.hid hbX
   clear R1 RH hbX hb9 C1 hB yB
   repeat(go_big_quiet_step (fail))
   refine wpQuiet_nil ?_
   refine gro_end fun W2 hb2=> ?_
   go_wp2_with fail
   go_ret
   exact⟨ret_bool (hT.out.symm),HX.out.trans (hb2.mono HX.out.size)⟩
  ·go_wp2_with (go_at_call 115;refine(C1.out _ _ (bdd (Below.refl _ _)) rfl).mono ?_;rintro e w9 ⟨rfl,hb9⟩)
   have hbX:Below W.heap.size W w9:=(bdd (Below.refl _ _)).trans hb9
   refine hK.out _ _ ?_
   clear hK K
   refine any_rest 5 (by kernel_rfl) ?_
   simp only[List.drop_succ_cons,List.drop_zero]
   have R1:=RH.out.up hbX
   have cB:=gro_cell (cell_later hbX hB)
   have c9:=gro_cell (R1.cs.c 9 _ rfl)
   have c4:=gro_cell (R1.cs.c 4 _ rfl)
   have yg:=R1.cs.lt
   have yb:B<w9.heap.size:=Nat.lt_of_lt_of_le yB hbX.size
   have HX:=Lib.hid hbX
   clear R1 RH hbX hb9 C1 hB yB
   repeat(go_big_quiet_step (fail))
   refine wpQuiet_nil ?_
   refine gro_end fun W2 hb2=> ?_
   go_wp2_with fail
   go_ret
   exact⟨ret_bool (hT.out.symm),HX.out.trans (hb2.mono HX.out.size)⟩
set_option maxHeartbeats 2000000 in
theorem clock_any {W:World} {g:Nat} {F:Frm} {s:Au} {op:MOp} {rp:MRp} (R:Rd W g F s op rp) {B:Nat} (hB:W.cell? ⟨B,0,none⟩=some (.pointer (some ⟨g,0,none⟩))):
 Calls Tryz.prog 155 #[.pointer (some ⟨B,0,none⟩)] W fun e w'=>e=.returned (.bool (clockA s op))∧Below W.heap.size W w':=by
 have hT:=Lib.hid (show clockA s op=(isB [12] op.kind&&decide (op.now<s.now)) from rfl)
 generalize clockA s op=M at hT⊢
 have C1:=Lib.hid (R.isC [12] (by simp[Bd]) (by simp))
 generalize isB [12] op.kind=q1 at C1 hT
 have yB:=World.block_lt_of_cell? _ _ hB
 have RH:=Lib.hid R
 clear R
 cases q1 with
 |true=>
  go_enter Tryz.func155,Tryz.ntmps155
  go_wp2_with fail
  refine any_start (by kernel_rfl) ?_
  refine any_two 0 2 (by kernel_rfl) fun K hK=>⟨?_, ?_⟩
  ·go_wp2_with (go_at_call 115;refine(C1.out _ _ (bdd (Below.refl _ _)) rfl).mono ?_;rintro e w9 ⟨rfl,hb9⟩)
   have hbX:Below W.heap.size W w9:=(bdd (Below.refl _ _)).trans hb9
   refine hK.out _ _ ?_
   clear hK K
   refine any_rest 4 (by kernel_rfl) ?_
   simp only[List.drop_succ_cons,List.drop_zero]
   have R1:=RH.out.up hbX
   have cB:=gro_cell (cell_later hbX hB)
   have c18:=gro_cell (R1.cs.c 18 _ rfl)
   have c4:=gro_cell (R1.cs.c 4 _ rfl)
   have yg:=R1.cs.lt
   have yb:B<w9.heap.size:=Nat.lt_of_lt_of_le yB hbX.size
   have HX:=Lib.hid hbX
   clear R1 RH hbX hb9 C1 hB yB
   repeat(go_big_quiet_step (fail))
   refine wpQuiet_nil ?_
   refine gro_end fun W2 hb2=> ?_
   go_wp2_with fail
   go_ret
   exact⟨ret_bool (hT.out.symm),HX.out.trans (hb2.mono HX.out.size)⟩
  ·go_wp2_with (go_at_call 115;refine(C1.out _ _ (bdd (Below.refl _ _)) rfl).mono ?_;rintro e w9 ⟨rfl,hb9⟩)
   have hbX:Below W.heap.size W w9:=(bdd (Below.refl _ _)).trans hb9
   refine hK.out _ _ ?_
   clear hK K
   refine any_rest 4 (by kernel_rfl) ?_
   simp only[List.drop_succ_cons,List.drop_zero]
   have R1:=RH.out.up hbX
   have cB:=gro_cell (cell_later hbX hB)
   have c18:=gro_cell (R1.cs.c 18 _ rfl)
   have c4:=gro_cell (R1.cs.c 4 _ rfl)
   have yg:=R1.cs.lt
   have yb:B<w9.heap.size:=Nat.lt_of_lt_of_le yB hbX.size
   have HX:=Lib.hid hbX
   clear R1 RH hbX hb9 C1 hB yB
   repeat(go_big_quiet_step (fail))
   refine wpQuiet_nil ?_
   refine gro_end fun W2 hb2=> ?_
   go_wp2_with fail
   go_ret
   exact⟨ret_bool (hT.out.symm),HX.out.trans (hb2.mono HX.out.size)⟩
 |false=>
  go_enter Tryz.func155,Tryz.ntmps155
  go_wp2_with fail
  refine any_start (by kernel_rfl) ?_
  refine any_two 0 2 (by kernel_rfl) fun K hK=>⟨?_, ?_⟩
  ·go_wp2_with (go_at_call 115;refine(C1.out _ _ (bdd (Below.refl _ _)) rfl).mono ?_;rintro e w9 ⟨rfl,hb9⟩)
   have hbX:Below W.heap.size W w9:=(bdd (Below.refl _ _)).trans hb9
   refine hK.out _ _ ?_
   clear hK K
   refine any_rest 4 (by kernel_rfl) ?_
   simp only[List.drop_succ_cons,List.drop_zero]
   have R1:=RH.out.up hbX
   have cB:=gro_cell (cell_later hbX hB)
   have c18:=gro_cell (R1.cs.c 18 _ rfl)
   have c4:=gro_cell (R1.cs.c 4 _ rfl)
   have yg:=R1.cs.lt
   have yb:B<w9.heap.size:=Nat.lt_of_lt_of_le yB hbX.size
   have HX:=Lib.hid hbX
   clear R1 RH hbX hb9 C1 hB yB
   repeat(go_big_quiet_step (fail))
   refine wpQuiet_nil ?_
   refine gro_end fun W2 hb2=> ?_
   go_wp2_with fail
   go_ret
   exact⟨ret_bool (hT.out.symm),HX.out.trans (hb2.mono HX.out.size)⟩
  ·go_wp2_with (go_at_call 115;refine(C1.out _ _ (bdd (Below.refl _ _)) rfl).mono ?_;rintro e w9 ⟨rfl,hb9⟩)
   have hbX:Below W.heap.size W w9:=(bdd (Below.refl _ _)).trans hb9
   refine hK.out _ _ ?_
   clear hK K
   refine any_rest 4 (by kernel_rfl) ?_
   simp only[List.drop_succ_cons,List.drop_zero]
   have R1:=RH.out.up hbX
   have cB:=gro_cell (cell_later hbX hB)
   have c18:=gro_cell (R1.cs.c 18 _ rfl)
   have c4:=gro_cell (R1.cs.c 4 _ rfl)
   have yg:=R1.cs.lt
   have yb:B<w9.heap.size:=Nat.lt_of_lt_of_le yB hbX.size
   have HX:=Lib.hid hbX
   clear R1 RH hbX hb9 C1 hB yB
   repeat(go_big_quiet_step (fail))
   refine wpQuiet_nil ?_
   refine gro_end fun W2 hb2=> ?_
   go_wp2_with fail
   go_ret
   exact⟨ret_bool (hT.out.symm),HX.out.trans (hb2.mono HX.out.size)⟩
set_option maxHeartbeats 2000000 in
theorem soldN_any {W:World} {g:Nat} {F:Frm} {s:Au} {op:MOp} {rp:MRp} (R:Rd W g F s op rp) {B:Nat} (hB:W.cell? ⟨B,0,none⟩=some (.pointer (some ⟨g,0,none⟩))) (hq:isB [8] op.kind=false):
 Calls Tryz.prog 161 #[.pointer (some ⟨B,0,none⟩)] W fun e w'=>e=.returned (.bool (soldA s.seats op))∧Below W.heap.size W w':=by
 have hT:=Lib.hid (show soldA s.seats op=false by simp[soldA,hq])
 generalize soldA s.seats op=M at hT⊢
 have C1:=Lib.hid (R.isC [8] (by simp[Bd]) (by simp))
 rw[hq] at C1
 clear hq
 have yB:=World.block_lt_of_cell? _ _ hB
 have RH:=Lib.hid R
 clear R
 go_enter Tryz.func161,Tryz.ntmps161
 go_wp2_with fail
 refine any_start (by kernel_rfl) ?_
 refine any_two 0 2 (by kernel_rfl) fun K hK=>⟨?_, ?_⟩
 ·go_wp2_with (go_at_call 115;refine(C1.out _ _ (bdd (Below.refl _ _)) rfl).mono ?_;rintro e w9 ⟨rfl,hb9⟩)
  have hbX:Below W.heap.size W w9:=(bdd (Below.refl _ _)).trans hb9
  refine hK.out _ _ ?_
  clear hK K
  refine any_rest 4 (by kernel_rfl) ?_
  simp only[List.drop_succ_cons,List.drop_zero]
  have R1:=RH.out.up hbX
  have cB:=gro_cell (cell_later hbX hB)
  have c5:=gro_cell (R1.cs.c 5 _ rfl)
  have yg:=R1.cs.lt
  have yb:B<w9.heap.size:=Nat.lt_of_lt_of_le yB hbX.size
  have HX:=Lib.hid hbX
  clear R1 RH hbX hb9 C1 hB yB
  repeat(go_big_quiet_step (fail))
  refine wpQuiet_nil ?_
  refine gro_end fun W2 hb2=> ?_
  go_wp2_with fail
  go_ret
  exact⟨ret_bool (hT.out.symm),HX.out.trans (hb2.mono HX.out.size)⟩
 ·go_wp2_with (go_at_call 115;refine(C1.out _ _ (bdd (Below.refl _ _)) rfl).mono ?_;rintro e w9 ⟨rfl,hb9⟩)
  have hbX:Below W.heap.size W w9:=(bdd (Below.refl _ _)).trans hb9
  refine hK.out _ _ ?_
  clear hK K
  refine any_rest 4 (by kernel_rfl) ?_
  simp only[List.drop_succ_cons,List.drop_zero]
  have R1:=RH.out.up hbX
  have cB:=gro_cell (cell_later hbX hB)
  have c5:=gro_cell (R1.cs.c 5 _ rfl)
  have yg:=R1.cs.lt
  have yb:B<w9.heap.size:=Nat.lt_of_lt_of_le yB hbX.size
  have HX:=Lib.hid hbX
  clear R1 RH hbX hb9 C1 hB yB
  repeat(go_big_quiet_step (fail))
  refine wpQuiet_nil ?_
  refine gro_end fun W2 hb2=> ?_
  go_wp2_with fail
  go_ret
  exact⟨ret_bool (hT.out.symm),HX.out.trans (hb2.mono HX.out.size)⟩
set_option maxHeartbeats 4000000 in
theorem soldY_any {W:World} {g:Nat} {F:Frm} {s:Au} {op:MOp} {rp:MRp} (R:Rd W g F s op rp) {B:Nat} (hB:W.cell? ⟨B,0,none⟩=some (.pointer (some ⟨g,0,none⟩))) (hq:isB [8] op.kind=true) {k:Nat} (hk:op.seat=(k:Int)) (hlt:k<s.seats.length):
 Calls Tryz.prog 161 #[.pointer (some ⟨B,0,none⟩)] W fun e w'=>e=.returned (.bool (soldA s.seats op))∧Below W.heap.size W w':=by
 obtain⟨b,off,hA,hbl,d0,_,_,_,_,d5,_,_,_,_⟩:=R.ss.atE hlt
 have hT:=Lib.hid (show soldA s.seats op=(!s.seats[k].sold||s.seats[k].epoch==18446744073709551615) by simp[soldA,hq,hk,List.getElem?_eq_getElem hlt])
 generalize soldA s.seats op=M at hT⊢
 generalize s.seats[k]=x at d0 d5 hT
 obtain⟨so,he,ow,ti,se,ep⟩:=x
 dsimp only at d0 d5 hT
 have C1:=Lib.hid (R.isC [8] (by simp[Bd]) (by simp))
 rw[hq] at C1
 clear hq
 have yB:=World.block_lt_of_cell? _ _ hB
 have RH:=Lib.hid R
 clear R
 cases so with
 |true=>
  go_enter Tryz.func161,Tryz.ntmps161
  go_wp2_with fail
  refine any_start (by kernel_rfl) ?_
  refine any_two 0 2 (by kernel_rfl) fun K hK=>⟨?_, ?_⟩
  ·go_wp2_with (go_at_call 115;refine(C1.out _ _ (bdd (Below.refl _ _)) rfl).mono ?_;rintro e w9 ⟨rfl,hb9⟩)
   have hbX:Below W.heap.size W w9:=(bdd (Below.refl _ _)).trans hb9
   refine hK.out _ _ ?_
   clear hK K
   refine any_rest 4 (by kernel_rfl) ?_
   simp only[List.drop_succ_cons,List.drop_zero]
   have R1:=RH.out.up hbX
   have cB:=gro_cell (cell_later hbX hB)
   have c5:=gro_cell (R1.cs.c 5 _ rfl)
   have c10:=gro_cell (R1.cs.c 10 _ rfl)
   have yg:=R1.cs.lt
   have yb:B<w9.heap.size:=Nat.lt_of_lt_of_le yB hbX.size
   have d0':=gro_cell (cell_later hbX d0)
   have d5':=gro_cell (cell_later hbX d5)
   have y2:b<w9.heap.size:=Nat.lt_of_lt_of_le hbl hbX.size
   have HX:=Lib.hid hbX
   clear R1 RH hbX hb9 C1 hB yB d0 d5
   rw[hA] at c5
   rw[hk] at c10
   repeat(go_big_quiet_step (fail))
   refine wpQuiet_nil ?_
   refine gro_end fun W2 hb2=> ?_
   go_wp2_with fail
   go_ret
   exact⟨ret_bool (hT.out.symm),HX.out.trans (hb2.mono HX.out.size)⟩
  ·go_wp2_with (go_at_call 115;refine(C1.out _ _ (bdd (Below.refl _ _)) rfl).mono ?_;rintro e w9 ⟨rfl,hb9⟩)
   have hbX:Below W.heap.size W w9:=(bdd (Below.refl _ _)).trans hb9
   refine hK.out _ _ ?_
   clear hK K
   refine any_rest 4 (by kernel_rfl) ?_
   simp only[List.drop_succ_cons,List.drop_zero]
   have R1:=RH.out.up hbX
   have cB:=gro_cell (cell_later hbX hB)
   have c5:=gro_cell (R1.cs.c 5 _ rfl)
   have c10:=gro_cell (R1.cs.c 10 _ rfl)
   have yg:=R1.cs.lt
   have yb:B<w9.heap.size:=Nat.lt_of_lt_of_le yB hbX.size
   have d0':=gro_cell (cell_later hbX d0)
   have d5':=gro_cell (cell_later hbX d5)
   have y2:b<w9.heap.size:=Nat.lt_of_lt_of_le hbl hbX.size
   have HX:=Lib.hid hbX
   clear R1 RH hbX hb9 C1 hB yB d0 d5
   rw[hA] at c5
   rw[hk] at c10
   repeat(go_big_quiet_step (fail))
   refine wpQuiet_nil ?_
   refine gro_end fun W2 hb2=> ?_
   go_wp2_with fail
   go_ret
   exact⟨ret_bool (hT.out.symm),HX.out.trans (hb2.mono HX.out.size)⟩
 |false=>
  go_enter Tryz.func161,Tryz.ntmps161
  go_wp2_with fail
  refine any_start (by kernel_rfl) ?_
  refine any_two 0 2 (by kernel_rfl) fun K hK=>⟨?_, ?_⟩
  ·go_wp2_with (go_at_call 115;refine(C1.out _ _ (bdd (Below.refl _ _)) rfl).mono ?_;rintro e w9 ⟨rfl,hb9⟩)
   have hbX:Below W.heap.size W w9:=(bdd (Below.refl _ _)).trans hb9
   refine hK.out _ _ ?_
   clear hK K
   refine any_rest 4 (by kernel_rfl) ?_
   simp only[List.drop_succ_cons,List.drop_zero]
   have R1:=RH.out.up hbX
   have cB:=gro_cell (cell_later hbX hB)
   have c5:=gro_cell (R1.cs.c 5 _ rfl)
   have c10:=gro_cell (R1.cs.c 10 _ rfl)
   have yg:=R1.cs.lt
   have yb:B<w9.heap.size:=Nat.lt_of_lt_of_le yB hbX.size
   have d0':=gro_cell (cell_later hbX d0)
   have d5':=gro_cell (cell_later hbX d5)
   have y2:b<w9.heap.size:=Nat.lt_of_lt_of_le hbl hbX.size
   have HX:=Lib.hid hbX
   clear R1 RH hbX hb9 C1 hB yB d0 d5
   rw[hA] at c5
   rw[hk] at c10
   repeat(go_big_quiet_step (fail))
   refine wpQuiet_nil ?_
   refine gro_end fun W2 hb2=> ?_
   go_wp2_with fail
   go_ret
   exact⟨ret_bool (hT.out.symm),HX.out.trans (hb2.mono HX.out.size)⟩
  ·go_wp2_with (go_at_call 115;refine(C1.out _ _ (bdd (Below.refl _ _)) rfl).mono ?_;rintro e w9 ⟨rfl,hb9⟩)
   have hbX:Below W.heap.size W w9:=(bdd (Below.refl _ _)).trans hb9
   refine hK.out _ _ ?_
   clear hK K
   refine any_rest 4 (by kernel_rfl) ?_
   simp only[List.drop_succ_cons,List.drop_zero]
   have R1:=RH.out.up hbX
   have cB:=gro_cell (cell_later hbX hB)
   have c5:=gro_cell (R1.cs.c 5 _ rfl)
   have c10:=gro_cell (R1.cs.c 10 _ rfl)
   have yg:=R1.cs.lt
   have yb:B<w9.heap.size:=Nat.lt_of_lt_of_le yB hbX.size
   have d0':=gro_cell (cell_later hbX d0)
   have d5':=gro_cell (cell_later hbX d5)
   have y2:b<w9.heap.size:=Nat.lt_of_lt_of_le hbl hbX.size
   have HX:=Lib.hid hbX
   clear R1 RH hbX hb9 C1 hB yB d0 d5
   rw[hA] at c5
   rw[hk] at c10
   repeat(go_big_quiet_step (fail))
   refine wpQuiet_nil ?_
   refine gro_end fun W2 hb2=> ?_
   go_wp2_with fail
   go_ret
   exact⟨ret_bool (hT.out.symm),HX.out.trans (hb2.mono HX.out.size)⟩
end Go.Proofs.YtlckmjiioohcmaaGreatDoor
