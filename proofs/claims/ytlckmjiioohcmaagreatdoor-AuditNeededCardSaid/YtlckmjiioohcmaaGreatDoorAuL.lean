/-
  Walk of the closure of the audit reader's method rules: owner. Conditions: as the theorem says.
-/
import Derived.Test.YtlckmjiioohcmaaGreatDoorAuK
namespace Go.Proofs.YtlckmjiioohcmaaGreatDoor
open Go.RowKit
set_option maxHeartbeats 8000000 in
theorem owner_any {W:World} {g:Nat} {F:Frm} {s:Au} {op:MOp} {rp:MRp} (R:Rd W g F s op rp) {B:Nat} (hB:W.cell? ⟨B,0,none⟩=some (.pointer (some ⟨g,0,none⟩))):
 Calls Tryz.prog 153 #[.pointer (some ⟨B,0,none⟩)] W fun e w'=>e=.returned (.bool (ownerA op))∧Below W.heap.size W w':=by
 have hT:=Lib.hid (show ownerA op=((isB [8] op.kind&&op.owner !=0)||(isB [6,7] op.kind&&op.tk.owner !=op.owner)) from rfl)
 generalize ownerA op=M at hT⊢
 have C1:=Lib.hid (R.isC [8] (by simp[Bd]) (by simp))
 have C2:=Lib.hid (R.isC [6,7] (by simp[Bd]) (by simp))
 generalize isB [8] op.kind=q1 at C1 hT
 generalize isB [6,7] op.kind=q2 at C2 hT
 have yB:=World.block_lt_of_cell? _ _ hB
 have RH:=Lib.hid R
 clear R
 cases q1 with
 |true=>
  by_cases ho:op.owner=0
  ·have t0:(op.owner !=0)=false:=by simpa using ho
   cases q2 with
   |true=>
    have hT':=Lib.hid (show M=(op.tk.owner !=op.owner) by rw[hT.out,t0];rfl)
    rw[ho] at hT'
    go_enter Tryz.func153,Tryz.ntmps153
    go_wp2_with fail
    refine any_start (by kernel_rfl) ?_
    refine any_two 0 2 (by kernel_rfl) fun K hK=>⟨?_, ?_⟩
    ·go_wp2_with (go_at_call 115;refine(C1.out _ _ (bdd (Below.refl _ _)) rfl).mono ?_;rintro e w9 ⟨rfl,hb9⟩)
     have HX:=Lib.hid (show Below W.heap.size W w9 from(bdd (Below.refl _ _)).trans hb9)
     refine hK.out _ _ ?_
     clear hK K hb9
     have R1:=RH.out.up HX.out
     have cB:=cell_later HX.out hB
     have c8:=R1.cs.c 8 _ rfl
     have yg:=R1.cs.lt
     have yb:B<w9.heap.size:=Nat.lt_of_lt_of_le yB HX.out.size
     clear R1
     refine any_one 4 8 (by kernel_rfl) fun K hK=> ?_
     go_wp2_with fail
     refine hK.out _ _ ?_
     clear hK K
     refine any_two 12 2 (by kernel_rfl) fun K hK=>⟨?_, ?_⟩
     ·go_wp2_with (go_at_call 115;refine(C2.out _ _ HX.out rfl).mono ?_;rintro e w10 ⟨rfl,hb10⟩)
      have hbX:Below W.heap.size W w10:=HX.out.trans (hb10.mono HX.out.size)
      refine hK.out _ _ ?_
      clear hK K cB c8 yg yb
      have R1:=RH.out.up hbX
      have cB:=gro_cell (cell_later hbX hB)
      have c8:=gro_cell (R1.cs.c 8 _ rfl)
      have c15:=gro_cell (R1.cs.c 15 _ rfl)
      have yg:=R1.cs.lt
      have yb:B<w10.heap.size:=Nat.lt_of_lt_of_le yB hbX.size
      replace HX:=Lib.hid hbX
      clear R1 RH hbX hb10 C1 C2 hB yB
      refine any_rest 16 (by kernel_rfl) ?_
      simp only[List.drop_succ_cons,List.drop_zero]
      repeat(go_big_quiet_step (fail))
      refine wpQuiet_nil ?_
      refine gro_end fun W2 hb2=> ?_
      go_wp2_with fail
      go_ret
      exact⟨ret_bool (hT'.out.symm),HX.out.trans (hb2.mono HX.out.size)⟩
     ·go_wp2_with (go_at_call 115;refine(C2.out _ _ HX.out rfl).mono ?_;rintro e w10 ⟨rfl,hb10⟩)
      have hbX:Below W.heap.size W w10:=HX.out.trans (hb10.mono HX.out.size)
      refine hK.out _ _ ?_
      clear hK K cB c8 yg yb
      have R1:=RH.out.up hbX
      have cB:=gro_cell (cell_later hbX hB)
      have c8:=gro_cell (R1.cs.c 8 _ rfl)
      have c15:=gro_cell (R1.cs.c 15 _ rfl)
      have yg:=R1.cs.lt
      have yb:B<w10.heap.size:=Nat.lt_of_lt_of_le yB hbX.size
      replace HX:=Lib.hid hbX
      clear R1 RH hbX hb10 C1 C2 hB yB
      refine any_rest 16 (by kernel_rfl) ?_
      simp only[List.drop_succ_cons,List.drop_zero]
      repeat(go_big_quiet_step (fail))
      refine wpQuiet_nil ?_
      refine gro_end fun W2 hb2=> ?_
      go_wp2_with fail
      go_ret
      exact⟨ret_bool (hT'.out.symm),HX.out.trans (hb2.mono HX.out.size)⟩
    ·go_wp2_with (go_at_call 115;refine(C1.out _ _ (bdd (Below.refl _ _)) rfl).mono ?_;rintro e w9 ⟨rfl,hb9⟩)
     have HX:=Lib.hid (show Below W.heap.size W w9 from(bdd (Below.refl _ _)).trans hb9)
     refine hK.out _ _ ?_
     clear hK K hb9
     have R1:=RH.out.up HX.out
     have cB:=cell_later HX.out hB
     have c8:=R1.cs.c 8 _ rfl
     have yg:=R1.cs.lt
     have yb:B<w9.heap.size:=Nat.lt_of_lt_of_le yB HX.out.size
     clear R1
     refine any_one 4 8 (by kernel_rfl) fun K hK=> ?_
     go_wp2_with fail
     refine hK.out _ _ ?_
     clear hK K
     refine any_two 12 2 (by kernel_rfl) fun K hK=>⟨?_, ?_⟩
     ·go_wp2_with (go_at_call 115;refine(C2.out _ _ HX.out rfl).mono ?_;rintro e w10 ⟨rfl,hb10⟩)
      have hbX:Below W.heap.size W w10:=HX.out.trans (hb10.mono HX.out.size)
      refine hK.out _ _ ?_
      clear hK K cB c8 yg yb
      have R1:=RH.out.up hbX
      have cB:=gro_cell (cell_later hbX hB)
      have c8:=gro_cell (R1.cs.c 8 _ rfl)
      have c15:=gro_cell (R1.cs.c 15 _ rfl)
      have yg:=R1.cs.lt
      have yb:B<w10.heap.size:=Nat.lt_of_lt_of_le yB hbX.size
      replace HX:=Lib.hid hbX
      clear R1 RH hbX hb10 C1 C2 hB yB
      refine any_rest 16 (by kernel_rfl) ?_
      simp only[List.drop_succ_cons,List.drop_zero]
      repeat(go_big_quiet_step (fail))
      refine wpQuiet_nil ?_
      refine gro_end fun W2 hb2=> ?_
      go_wp2_with fail
      go_ret
      exact⟨ret_bool (hT'.out.symm),HX.out.trans (hb2.mono HX.out.size)⟩
     ·go_wp2_with (go_at_call 115;refine(C2.out _ _ HX.out rfl).mono ?_;rintro e w10 ⟨rfl,hb10⟩)
      have hbX:Below W.heap.size W w10:=HX.out.trans (hb10.mono HX.out.size)
      refine hK.out _ _ ?_
      clear hK K cB c8 yg yb
      have R1:=RH.out.up hbX
      have cB:=gro_cell (cell_later hbX hB)
      have c8:=gro_cell (R1.cs.c 8 _ rfl)
      have c15:=gro_cell (R1.cs.c 15 _ rfl)
      have yg:=R1.cs.lt
      have yb:B<w10.heap.size:=Nat.lt_of_lt_of_le yB hbX.size
      replace HX:=Lib.hid hbX
      clear R1 RH hbX hb10 C1 C2 hB yB
      refine any_rest 16 (by kernel_rfl) ?_
      simp only[List.drop_succ_cons,List.drop_zero]
      repeat(go_big_quiet_step (fail))
      refine wpQuiet_nil ?_
      refine gro_end fun W2 hb2=> ?_
      go_wp2_with fail
      go_ret
      exact⟨ret_bool (hT'.out.symm),HX.out.trans (hb2.mono HX.out.size)⟩
   |false=>
    have hT':=Lib.hid (show M=false by rw[hT.out,t0];rfl)
    go_enter Tryz.func153,Tryz.ntmps153
    go_wp2_with fail
    refine any_start (by kernel_rfl) ?_
    refine any_two 0 2 (by kernel_rfl) fun K hK=>⟨?_, ?_⟩
    ·go_wp2_with (go_at_call 115;refine(C1.out _ _ (bdd (Below.refl _ _)) rfl).mono ?_;rintro e w9 ⟨rfl,hb9⟩)
     have HX:=Lib.hid (show Below W.heap.size W w9 from(bdd (Below.refl _ _)).trans hb9)
     refine hK.out _ _ ?_
     clear hK K hb9
     have R1:=RH.out.up HX.out
     have cB:=cell_later HX.out hB
     have c8:=R1.cs.c 8 _ rfl
     have yg:=R1.cs.lt
     have yb:B<w9.heap.size:=Nat.lt_of_lt_of_le yB HX.out.size
     clear R1
     refine any_one 4 8 (by kernel_rfl) fun K hK=> ?_
     go_wp2_with fail
     refine hK.out _ _ ?_
     clear hK K
     refine any_two 12 2 (by kernel_rfl) fun K hK=>⟨?_, ?_⟩
     ·go_wp2_with (go_at_call 115;refine(C2.out _ _ HX.out rfl).mono ?_;rintro e w10 ⟨rfl,hb10⟩)
      have hbX:Below W.heap.size W w10:=HX.out.trans (hb10.mono HX.out.size)
      refine hK.out _ _ ?_
      clear hK K cB c8 yg yb
      have R1:=RH.out.up hbX
      have cB:=gro_cell (cell_later hbX hB)
      have c8:=gro_cell (R1.cs.c 8 _ rfl)
      have c15:=gro_cell (R1.cs.c 15 _ rfl)
      have yg:=R1.cs.lt
      have yb:B<w10.heap.size:=Nat.lt_of_lt_of_le yB hbX.size
      replace HX:=Lib.hid hbX
      clear R1 RH hbX hb10 C1 C2 hB yB
      refine any_rest 16 (by kernel_rfl) ?_
      simp only[List.drop_succ_cons,List.drop_zero]
      repeat(go_big_quiet_step (fail))
      refine wpQuiet_nil ?_
      refine gro_end fun W2 hb2=> ?_
      go_wp2_with fail
      go_ret
      exact⟨ret_bool (hT'.out.symm),HX.out.trans (hb2.mono HX.out.size)⟩
     ·go_wp2_with (go_at_call 115;refine(C2.out _ _ HX.out rfl).mono ?_;rintro e w10 ⟨rfl,hb10⟩)
      have hbX:Below W.heap.size W w10:=HX.out.trans (hb10.mono HX.out.size)
      refine hK.out _ _ ?_
      clear hK K cB c8 yg yb
      have R1:=RH.out.up hbX
      have cB:=gro_cell (cell_later hbX hB)
      have c8:=gro_cell (R1.cs.c 8 _ rfl)
      have c15:=gro_cell (R1.cs.c 15 _ rfl)
      have yg:=R1.cs.lt
      have yb:B<w10.heap.size:=Nat.lt_of_lt_of_le yB hbX.size
      replace HX:=Lib.hid hbX
      clear R1 RH hbX hb10 C1 C2 hB yB
      refine any_rest 16 (by kernel_rfl) ?_
      simp only[List.drop_succ_cons,List.drop_zero]
      repeat(go_big_quiet_step (fail))
      refine wpQuiet_nil ?_
      refine gro_end fun W2 hb2=> ?_
      go_wp2_with fail
      go_ret
      exact⟨ret_bool (hT'.out.symm),HX.out.trans (hb2.mono HX.out.size)⟩
    ·go_wp2_with (go_at_call 115;refine(C1.out _ _ (bdd (Below.refl _ _)) rfl).mono ?_;rintro e w9 ⟨rfl,hb9⟩)
     have HX:=Lib.hid (show Below W.heap.size W w9 from(bdd (Below.refl _ _)).trans hb9)
     refine hK.out _ _ ?_
     clear hK K hb9
     have R1:=RH.out.up HX.out
     have cB:=cell_later HX.out hB
     have c8:=R1.cs.c 8 _ rfl
     have yg:=R1.cs.lt
     have yb:B<w9.heap.size:=Nat.lt_of_lt_of_le yB HX.out.size
     clear R1
     refine any_one 4 8 (by kernel_rfl) fun K hK=> ?_
     go_wp2_with fail
     refine hK.out _ _ ?_
     clear hK K
     refine any_two 12 2 (by kernel_rfl) fun K hK=>⟨?_, ?_⟩
     ·go_wp2_with (go_at_call 115;refine(C2.out _ _ HX.out rfl).mono ?_;rintro e w10 ⟨rfl,hb10⟩)
      have hbX:Below W.heap.size W w10:=HX.out.trans (hb10.mono HX.out.size)
      refine hK.out _ _ ?_
      clear hK K cB c8 yg yb
      have R1:=RH.out.up hbX
      have cB:=gro_cell (cell_later hbX hB)
      have c8:=gro_cell (R1.cs.c 8 _ rfl)
      have c15:=gro_cell (R1.cs.c 15 _ rfl)
      have yg:=R1.cs.lt
      have yb:B<w10.heap.size:=Nat.lt_of_lt_of_le yB hbX.size
      replace HX:=Lib.hid hbX
      clear R1 RH hbX hb10 C1 C2 hB yB
      refine any_rest 16 (by kernel_rfl) ?_
      simp only[List.drop_succ_cons,List.drop_zero]
      repeat(go_big_quiet_step (fail))
      refine wpQuiet_nil ?_
      refine gro_end fun W2 hb2=> ?_
      go_wp2_with fail
      go_ret
      exact⟨ret_bool (hT'.out.symm),HX.out.trans (hb2.mono HX.out.size)⟩
     ·go_wp2_with (go_at_call 115;refine(C2.out _ _ HX.out rfl).mono ?_;rintro e w10 ⟨rfl,hb10⟩)
      have hbX:Below W.heap.size W w10:=HX.out.trans (hb10.mono HX.out.size)
      refine hK.out _ _ ?_
      clear hK K cB c8 yg yb
      have R1:=RH.out.up hbX
      have cB:=gro_cell (cell_later hbX hB)
      have c8:=gro_cell (R1.cs.c 8 _ rfl)
      have c15:=gro_cell (R1.cs.c 15 _ rfl)
      have yg:=R1.cs.lt
      have yb:B<w10.heap.size:=Nat.lt_of_lt_of_le yB hbX.size
      replace HX:=Lib.hid hbX
      clear R1 RH hbX hb10 C1 C2 hB yB
      refine any_rest 16 (by kernel_rfl) ?_
      simp only[List.drop_succ_cons,List.drop_zero]
      repeat(go_big_quiet_step (fail))
      refine wpQuiet_nil ?_
      refine gro_end fun W2 hb2=> ?_
      go_wp2_with fail
      go_ret
      exact⟨ret_bool (hT'.out.symm),HX.out.trans (hb2.mono HX.out.size)⟩
  ·have t0:(op.owner !=0)=true:=by simpa using ho
   have hT':=Lib.hid (show M=true by rw[hT.out,t0];rfl)
   clear ho
   go_enter Tryz.func153,Tryz.ntmps153
   go_wp2_with fail
   refine any_start (by kernel_rfl) ?_
   refine any_two 0 2 (by kernel_rfl) fun K hK=>⟨?_, ?_⟩
   ·go_wp2_with (go_at_call 115;refine(C1.out _ _ (bdd (Below.refl _ _)) rfl).mono ?_;rintro e w9 ⟨rfl,hb9⟩)
    have HX:=Lib.hid (show Below W.heap.size W w9 from(bdd (Below.refl _ _)).trans hb9)
    refine hK.out _ _ ?_
    clear hK K hb9
    have R1:=RH.out.up HX.out
    have cB:=cell_later HX.out hB
    have c8:=R1.cs.c 8 _ rfl
    have yg:=R1.cs.lt
    have yb:B<w9.heap.size:=Nat.lt_of_lt_of_le yB HX.out.size
    clear R1
    refine any_one 4 8 (by kernel_rfl) fun K hK=> ?_
    go_wp2_with fail
    refine hK.out _ _ ?_
    clear hK K
    refine any_two 12 2 (by kernel_rfl) fun K hK=>⟨?_, ?_⟩
    ·go_wp2_with fail
     refine hK.out _ _ ?_
     clear hK K cB c8 yg yb RH C1 C2 hB yB
     refine any_rest 16 (by kernel_rfl) ?_
     simp only[List.drop_succ_cons,List.drop_zero]
     repeat(go_big_quiet_step (fail))
     refine wpQuiet_nil ?_
     refine gro_end fun W2 hb2=> ?_
     go_wp2_with fail
     go_ret
     exact⟨ret_bool (hT'.out.symm),HX.out.trans (hb2.mono HX.out.size)⟩
    ·go_wp2_with fail
     refine hK.out _ _ ?_
     clear hK K cB c8 yg yb RH C1 C2 hB yB
     refine any_rest 16 (by kernel_rfl) ?_
     simp only[List.drop_succ_cons,List.drop_zero]
     repeat(go_big_quiet_step (fail))
     refine wpQuiet_nil ?_
     refine gro_end fun W2 hb2=> ?_
     go_wp2_with fail
     go_ret
     exact⟨ret_bool (hT'.out.symm),HX.out.trans (hb2.mono HX.out.size)⟩
   ·go_wp2_with (go_at_call 115;refine(C1.out _ _ (bdd (Below.refl _ _)) rfl).mono ?_;rintro e w9 ⟨rfl,hb9⟩)
    have HX:=Lib.hid (show Below W.heap.size W w9 from(bdd (Below.refl _ _)).trans hb9)
    refine hK.out _ _ ?_
    clear hK K hb9
    have R1:=RH.out.up HX.out
    have cB:=cell_later HX.out hB
    have c8:=R1.cs.c 8 _ rfl
    have yg:=R1.cs.lt
    have yb:B<w9.heap.size:=Nat.lt_of_lt_of_le yB HX.out.size
    clear R1
    refine any_one 4 8 (by kernel_rfl) fun K hK=> ?_
    go_wp2_with fail
    refine hK.out _ _ ?_
    clear hK K
    refine any_two 12 2 (by kernel_rfl) fun K hK=>⟨?_, ?_⟩
    ·go_wp2_with fail
     refine hK.out _ _ ?_
     clear hK K cB c8 yg yb RH C1 C2 hB yB
     refine any_rest 16 (by kernel_rfl) ?_
     simp only[List.drop_succ_cons,List.drop_zero]
     repeat(go_big_quiet_step (fail))
     refine wpQuiet_nil ?_
     refine gro_end fun W2 hb2=> ?_
     go_wp2_with fail
     go_ret
     exact⟨ret_bool (hT'.out.symm),HX.out.trans (hb2.mono HX.out.size)⟩
    ·go_wp2_with fail
     refine hK.out _ _ ?_
     clear hK K cB c8 yg yb RH C1 C2 hB yB
     refine any_rest 16 (by kernel_rfl) ?_
     simp only[List.drop_succ_cons,List.drop_zero]
     repeat(go_big_quiet_step (fail))
     refine wpQuiet_nil ?_
     refine gro_end fun W2 hb2=> ?_
     go_wp2_with fail
     go_ret
     exact⟨ret_bool (hT'.out.symm),HX.out.trans (hb2.mono HX.out.size)⟩
 |false=>
  cases q2 with
  |true=>
   go_enter Tryz.func153,Tryz.ntmps153
   go_wp2_with fail
   refine any_start (by kernel_rfl) ?_
   refine any_two 0 2 (by kernel_rfl) fun K hK=>⟨?_, ?_⟩
   ·go_wp2_with (go_at_call 115;refine(C1.out _ _ (bdd (Below.refl _ _)) rfl).mono ?_;rintro e w9 ⟨rfl,hb9⟩)
    have HX:=Lib.hid (show Below W.heap.size W w9 from(bdd (Below.refl _ _)).trans hb9)
    refine hK.out _ _ ?_
    clear hK K hb9
    have R1:=RH.out.up HX.out
    have cB:=cell_later HX.out hB
    have c8:=R1.cs.c 8 _ rfl
    have yg:=R1.cs.lt
    have yb:B<w9.heap.size:=Nat.lt_of_lt_of_le yB HX.out.size
    clear R1
    refine any_one 4 8 (by kernel_rfl) fun K hK=> ?_
    go_wp2_with fail
    refine hK.out _ _ ?_
    clear hK K
    refine any_two 12 2 (by kernel_rfl) fun K hK=>⟨?_, ?_⟩
    ·go_wp2_with (go_at_call 115;refine(C2.out _ _ HX.out rfl).mono ?_;rintro e w10 ⟨rfl,hb10⟩)
     have hbX:Below W.heap.size W w10:=HX.out.trans (hb10.mono HX.out.size)
     refine hK.out _ _ ?_
     clear hK K cB c8 yg yb
     have R1:=RH.out.up hbX
     have cB:=gro_cell (cell_later hbX hB)
     have c8:=gro_cell (R1.cs.c 8 _ rfl)
     have c15:=gro_cell (R1.cs.c 15 _ rfl)
     have yg:=R1.cs.lt
     have yb:B<w10.heap.size:=Nat.lt_of_lt_of_le yB hbX.size
     replace HX:=Lib.hid hbX
     clear R1 RH hbX hb10 C1 C2 hB yB
     refine any_rest 16 (by kernel_rfl) ?_
     simp only[List.drop_succ_cons,List.drop_zero]
     repeat(go_big_quiet_step (fail))
     refine wpQuiet_nil ?_
     refine gro_end fun W2 hb2=> ?_
     go_wp2_with fail
     go_ret
     exact⟨ret_bool (hT.out.symm),HX.out.trans (hb2.mono HX.out.size)⟩
    ·go_wp2_with (go_at_call 115;refine(C2.out _ _ HX.out rfl).mono ?_;rintro e w10 ⟨rfl,hb10⟩)
     have hbX:Below W.heap.size W w10:=HX.out.trans (hb10.mono HX.out.size)
     refine hK.out _ _ ?_
     clear hK K cB c8 yg yb
     have R1:=RH.out.up hbX
     have cB:=gro_cell (cell_later hbX hB)
     have c8:=gro_cell (R1.cs.c 8 _ rfl)
     have c15:=gro_cell (R1.cs.c 15 _ rfl)
     have yg:=R1.cs.lt
     have yb:B<w10.heap.size:=Nat.lt_of_lt_of_le yB hbX.size
     replace HX:=Lib.hid hbX
     clear R1 RH hbX hb10 C1 C2 hB yB
     refine any_rest 16 (by kernel_rfl) ?_
     simp only[List.drop_succ_cons,List.drop_zero]
     repeat(go_big_quiet_step (fail))
     refine wpQuiet_nil ?_
     refine gro_end fun W2 hb2=> ?_
     go_wp2_with fail
     go_ret
     exact⟨ret_bool (hT.out.symm),HX.out.trans (hb2.mono HX.out.size)⟩
   ·go_wp2_with (go_at_call 115;refine(C1.out _ _ (bdd (Below.refl _ _)) rfl).mono ?_;rintro e w9 ⟨rfl,hb9⟩)
    have HX:=Lib.hid (show Below W.heap.size W w9 from(bdd (Below.refl _ _)).trans hb9)
    refine hK.out _ _ ?_
    clear hK K hb9
    have R1:=RH.out.up HX.out
    have cB:=cell_later HX.out hB
    have c8:=R1.cs.c 8 _ rfl
    have yg:=R1.cs.lt
    have yb:B<w9.heap.size:=Nat.lt_of_lt_of_le yB HX.out.size
    clear R1
    refine any_one 4 8 (by kernel_rfl) fun K hK=> ?_
    go_wp2_with fail
    refine hK.out _ _ ?_
    clear hK K
    refine any_two 12 2 (by kernel_rfl) fun K hK=>⟨?_, ?_⟩
    ·go_wp2_with (go_at_call 115;refine(C2.out _ _ HX.out rfl).mono ?_;rintro e w10 ⟨rfl,hb10⟩)
     have hbX:Below W.heap.size W w10:=HX.out.trans (hb10.mono HX.out.size)
     refine hK.out _ _ ?_
     clear hK K cB c8 yg yb
     have R1:=RH.out.up hbX
     have cB:=gro_cell (cell_later hbX hB)
     have c8:=gro_cell (R1.cs.c 8 _ rfl)
     have c15:=gro_cell (R1.cs.c 15 _ rfl)
     have yg:=R1.cs.lt
     have yb:B<w10.heap.size:=Nat.lt_of_lt_of_le yB hbX.size
     replace HX:=Lib.hid hbX
     clear R1 RH hbX hb10 C1 C2 hB yB
     refine any_rest 16 (by kernel_rfl) ?_
     simp only[List.drop_succ_cons,List.drop_zero]
     repeat(go_big_quiet_step (fail))
     refine wpQuiet_nil ?_
     refine gro_end fun W2 hb2=> ?_
     go_wp2_with fail
     go_ret
     exact⟨ret_bool (hT.out.symm),HX.out.trans (hb2.mono HX.out.size)⟩
    ·go_wp2_with (go_at_call 115;refine(C2.out _ _ HX.out rfl).mono ?_;rintro e w10 ⟨rfl,hb10⟩)
     have hbX:Below W.heap.size W w10:=HX.out.trans (hb10.mono HX.out.size)
     refine hK.out _ _ ?_
     clear hK K cB c8 yg yb
     have R1:=RH.out.up hbX
     have cB:=gro_cell (cell_later hbX hB)
     have c8:=gro_cell (R1.cs.c 8 _ rfl)
     have c15:=gro_cell (R1.cs.c 15 _ rfl)
     have yg:=R1.cs.lt
     have yb:B<w10.heap.size:=Nat.lt_of_lt_of_le yB hbX.size
     replace HX:=Lib.hid hbX
     clear R1 RH hbX hb10 C1 C2 hB yB
     refine any_rest 16 (by kernel_rfl) ?_
     simp only[List.drop_succ_cons,List.drop_zero]
     repeat(go_big_quiet_step (fail))
     refine wpQuiet_nil ?_
     refine gro_end fun W2 hb2=> ?_
     go_wp2_with fail
     go_ret
     exact⟨ret_bool (hT.out.symm),HX.out.trans (hb2.mono HX.out.size)⟩
  |false=>
   go_enter Tryz.func153,Tryz.ntmps153
   go_wp2_with fail
   refine any_start (by kernel_rfl) ?_
   refine any_two 0 2 (by kernel_rfl) fun K hK=>⟨?_, ?_⟩
   ·go_wp2_with (go_at_call 115;refine(C1.out _ _ (bdd (Below.refl _ _)) rfl).mono ?_;rintro e w9 ⟨rfl,hb9⟩)
    have HX:=Lib.hid (show Below W.heap.size W w9 from(bdd (Below.refl _ _)).trans hb9)
    refine hK.out _ _ ?_
    clear hK K hb9
    have R1:=RH.out.up HX.out
    have cB:=cell_later HX.out hB
    have c8:=R1.cs.c 8 _ rfl
    have yg:=R1.cs.lt
    have yb:B<w9.heap.size:=Nat.lt_of_lt_of_le yB HX.out.size
    clear R1
    refine any_one 4 8 (by kernel_rfl) fun K hK=> ?_
    go_wp2_with fail
    refine hK.out _ _ ?_
    clear hK K
    refine any_two 12 2 (by kernel_rfl) fun K hK=>⟨?_, ?_⟩
    ·go_wp2_with (go_at_call 115;refine(C2.out _ _ HX.out rfl).mono ?_;rintro e w10 ⟨rfl,hb10⟩)
     have hbX:Below W.heap.size W w10:=HX.out.trans (hb10.mono HX.out.size)
     refine hK.out _ _ ?_
     clear hK K cB c8 yg yb
     have R1:=RH.out.up hbX
     have cB:=gro_cell (cell_later hbX hB)
     have c8:=gro_cell (R1.cs.c 8 _ rfl)
     have c15:=gro_cell (R1.cs.c 15 _ rfl)
     have yg:=R1.cs.lt
     have yb:B<w10.heap.size:=Nat.lt_of_lt_of_le yB hbX.size
     replace HX:=Lib.hid hbX
     clear R1 RH hbX hb10 C1 C2 hB yB
     refine any_rest 16 (by kernel_rfl) ?_
     simp only[List.drop_succ_cons,List.drop_zero]
     repeat(go_big_quiet_step (fail))
     refine wpQuiet_nil ?_
     refine gro_end fun W2 hb2=> ?_
     go_wp2_with fail
     go_ret
     exact⟨ret_bool (hT.out.symm),HX.out.trans (hb2.mono HX.out.size)⟩
    ·go_wp2_with (go_at_call 115;refine(C2.out _ _ HX.out rfl).mono ?_;rintro e w10 ⟨rfl,hb10⟩)
     have hbX:Below W.heap.size W w10:=HX.out.trans (hb10.mono HX.out.size)
     refine hK.out _ _ ?_
     clear hK K cB c8 yg yb
     have R1:=RH.out.up hbX
     have cB:=gro_cell (cell_later hbX hB)
     have c8:=gro_cell (R1.cs.c 8 _ rfl)
     have c15:=gro_cell (R1.cs.c 15 _ rfl)
     have yg:=R1.cs.lt
     have yb:B<w10.heap.size:=Nat.lt_of_lt_of_le yB hbX.size
     replace HX:=Lib.hid hbX
     clear R1 RH hbX hb10 C1 C2 hB yB
     refine any_rest 16 (by kernel_rfl) ?_
     simp only[List.drop_succ_cons,List.drop_zero]
     repeat(go_big_quiet_step (fail))
     refine wpQuiet_nil ?_
     refine gro_end fun W2 hb2=> ?_
     go_wp2_with fail
     go_ret
     exact⟨ret_bool (hT.out.symm),HX.out.trans (hb2.mono HX.out.size)⟩
   ·go_wp2_with (go_at_call 115;refine(C1.out _ _ (bdd (Below.refl _ _)) rfl).mono ?_;rintro e w9 ⟨rfl,hb9⟩)
    have HX:=Lib.hid (show Below W.heap.size W w9 from(bdd (Below.refl _ _)).trans hb9)
    refine hK.out _ _ ?_
    clear hK K hb9
    have R1:=RH.out.up HX.out
    have cB:=cell_later HX.out hB
    have c8:=R1.cs.c 8 _ rfl
    have yg:=R1.cs.lt
    have yb:B<w9.heap.size:=Nat.lt_of_lt_of_le yB HX.out.size
    clear R1
    refine any_one 4 8 (by kernel_rfl) fun K hK=> ?_
    go_wp2_with fail
    refine hK.out _ _ ?_
    clear hK K
    refine any_two 12 2 (by kernel_rfl) fun K hK=>⟨?_, ?_⟩
    ·go_wp2_with (go_at_call 115;refine(C2.out _ _ HX.out rfl).mono ?_;rintro e w10 ⟨rfl,hb10⟩)
     have hbX:Below W.heap.size W w10:=HX.out.trans (hb10.mono HX.out.size)
     refine hK.out _ _ ?_
     clear hK K cB c8 yg yb
     have R1:=RH.out.up hbX
     have cB:=gro_cell (cell_later hbX hB)
     have c8:=gro_cell (R1.cs.c 8 _ rfl)
     have c15:=gro_cell (R1.cs.c 15 _ rfl)
     have yg:=R1.cs.lt
     have yb:B<w10.heap.size:=Nat.lt_of_lt_of_le yB hbX.size
     replace HX:=Lib.hid hbX
     clear R1 RH hbX hb10 C1 C2 hB yB
     refine any_rest 16 (by kernel_rfl) ?_
     simp only[List.drop_succ_cons,List.drop_zero]
     repeat(go_big_quiet_step (fail))
     refine wpQuiet_nil ?_
     refine gro_end fun W2 hb2=> ?_
     go_wp2_with fail
     go_ret
     exact⟨ret_bool (hT.out.symm),HX.out.trans (hb2.mono HX.out.size)⟩
    ·go_wp2_with (go_at_call 115;refine(C2.out _ _ HX.out rfl).mono ?_;rintro e w10 ⟨rfl,hb10⟩)
     have hbX:Below W.heap.size W w10:=HX.out.trans (hb10.mono HX.out.size)
     refine hK.out _ _ ?_
     clear hK K cB c8 yg yb
     have R1:=RH.out.up hbX
     have cB:=gro_cell (cell_later hbX hB)
     have c8:=gro_cell (R1.cs.c 8 _ rfl)
     have c15:=gro_cell (R1.cs.c 15 _ rfl)
     have yg:=R1.cs.lt
     have yb:B<w10.heap.size:=Nat.lt_of_lt_of_le yB hbX.size
     replace HX:=Lib.hid hbX
     clear R1 RH hbX hb10 C1 C2 hB yB
     refine any_rest 16 (by kernel_rfl) ?_
     simp only[List.drop_succ_cons,List.drop_zero]
     repeat(go_big_quiet_step (fail))
     refine wpQuiet_nil ?_
     refine gro_end fun W2 hb2=> ?_
     go_wp2_with fail
     go_ret
     exact⟨ret_bool (hT.out.symm),HX.out.trans (hb2.mono HX.out.size)⟩
end Go.Proofs.YtlckmjiioohcmaaGreatDoor
