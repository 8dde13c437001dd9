/-
  Walk of the audit reader's method more. Conditions: as the theorem says.
-/
import Derived.Test.YtlckmjiioohcmaaGreatDoorAuC
namespace Go.Proofs.YtlckmjiioohcmaaGreatDoor
open Go.RowKit
theorem isLb (g:Nat) (kind:Int) (ks:List Int) (W:World) (b:Nat) (hk:W.cell? ⟨g,7,none⟩=some (.int .i64 kind)) (hb:∀x,x∈ks→Bd x) (hl:ks.length≤1000) (he:b=W.heap.size):
 Calls Tryz.prog 115 #[.pointer (some ⟨g,0,none⟩),.slice (some ⟨b,0,none⟩) ks.length ks.length] (W.alloc (.cells (ks.map (Value.int .i64)).toArray 3)) fun e w'=>e=.returned (.bool (isB ks kind))∧Below W.heap.size W w':=by
 subst he
 exact isL g kind ks W hk hb hl
def leftA (kind:Int) (rp:MRp):MRp:=if rp.err≠0 then {rp with err:=0} else if isB [3] kind then {rp with seat:=0,n:=0,deadline:=0} else if isB [1,2] kind then {rp with deadline:=0} else if isB [5,6] kind then {rp with tk:=noTk} else if isB [10] kind then {rp with place:=0} else rp
def moreA (kind:Int) (rp:MRp):Bool:= !(leftA kind rp==noRp)
set_option maxRecDepth 20000 in
set_option maxHeartbeats 4000000 in
theorem more_any (g:Nat) (kind:Int) (rp:MRp) (W:World) (h7:W.cell? ⟨g,7,none⟩=some (.int .i64 kind)) (r0:W.cell? ⟨g,19,none⟩=some (.int .i64 rp.err)) (r1:W.cell? ⟨g,20,none⟩=some (.int .i64 rp.seat)) (r2:W.cell? ⟨g,21,none⟩=some (.int .i64 rp.n)) (r3:W.cell? ⟨g,22,none⟩=some (.int .i64 rp.deadline))
 (r4:W.cell? ⟨g,23,none⟩=some (.int .u32 rp.tk.seat)) (r5:W.cell? ⟨g,24,none⟩=some (.int .u32 rp.tk.owner)) (r6:W.cell? ⟨g,25,none⟩=some (.int .u64 rp.tk.serial)) (r7:W.cell? ⟨g,26,none⟩=some (.int .u64 rp.tk.epoch)) (r8:W.cell? ⟨g,27,none⟩=some (.int .i64 rp.place)):
 Calls Tryz.prog 114 #[.pointer (some ⟨g,0,none⟩)] W fun e w'=>e=.returned (.bool (moreA kind rp))∧Below W.heap.size W w':=by
 have hg:=World.block_lt_of_cell? _ _ h7
 have hT:=Lib.hid (show moreA kind rp= !(leftA kind rp==noRp) from rfl)
 generalize moreA kind rp=M at hT⊢
 obtain⟨e,s,n,d,⟨ts,to,te,tp⟩,p⟩:=rp
 dsimp only at r0 r1 r2 r3 r4 r5 r6 r7 r8
 have C1:=Lib.hid (fun w b (hb:Below W.heap.size W w) (he:b=w.heap.size)=>isLb g kind [3] w b (cell_later hb h7) (by simp[Bd]) (by simp) he)
 have C2:=Lib.hid (fun w b (hb:Below W.heap.size W w) (he:b=w.heap.size)=>isLb g kind [1,2] w b (cell_later hb h7) (by simp[Bd]) (by simp) he)
 have C3:=Lib.hid (fun w b (hb:Below W.heap.size W w) (he:b=w.heap.size)=>isLb g kind [5,6] w b (cell_later hb h7) (by simp[Bd]) (by simp) he)
 have C4:=Lib.hid (fun w b (hb:Below W.heap.size W w) (he:b=w.heap.size)=>isLb g kind [10] w b (cell_later hb h7) (by simp[Bd]) (by simp) he)
 have hL:=Lib.hid (show leftA kind ⟨e,s,n,d,⟨ts,to,te,tp⟩,p⟩=if e≠0 then⟨0,s,n,d,⟨ts,to,te,tp⟩,p⟩ else if isB [3] kind then⟨e,0,0,0,⟨ts,to,te,tp⟩,p⟩ else if isB [1,2] kind then⟨e,s,n,0,⟨ts,to,te,tp⟩,p⟩ else if isB [5,6] kind then⟨e,s,n,d,noTk,p⟩ else if isB [10] kind then⟨e,s,n,d,⟨ts,to,te,tp⟩,0⟩ else⟨e,s,n,d,⟨ts,to,te,tp⟩,p⟩ from rfl)
 generalize isB [3] kind=q1 at C1 hL
 generalize isB [1,2] kind=q2 at C2 hL
 generalize isB [5,6] kind=q3 at C3 hL
 generalize isB [10] kind=q4 at C4 hL
 generalize leftA kind ⟨e,s,n,d,⟨ts,to,te,tp⟩,p⟩=X at hL hT
 by_cases he:e=0
 case neg=>
  have t0:(e !=0)=true:=by simpa using he
  obtain rfl:X=⟨0,s,n,d,⟨ts,to,te,tp⟩,p⟩:=by rw[hL.out,if_pos he]
  clear he hL
  go_enter Tryz.func114,Tryz.ntmps114
  go_wp2_with fail
  all_goals(go_ret;exact⟨ret_bool (by rw[hT.out];simp_all [noRp,noTk]),ba _ _⟩)
 subst he
 have C0:=Lib.hid (Cells.new W [.int .i64 0,.int .i64 s,.int .i64 n,.int .i64 d,.int .u32 ts,.int .u32 to,.int .u64 te,.int .u64 tp,.int .i64 p] 49)
 cases q1 with
 |true=>
  go_enter Tryz.func114,Tryz.ntmps114
  go_wp2_with fail
  refine(C1.out _ _ (ba _ _) (by simp)).mono ?_
  rintro e w1 ⟨rfl,hb1⟩
  have K:=Lib.hid (C0.out.later hb1)
  have HB:=Lib.hid ((ba W (.cells #[.int .i64 0,.int .i64 s,.int .i64 n,.int .i64 d,.int .u32 ts,.int .u32 to,.int .u64 te,.int .u64 tp,.int .i64 p] 49)).trans (hb1.mono (ba W (.cells #[.int .i64 0,.int .i64 s,.int .i64 n,.int .i64 d,.int .u32 ts,.int .u32 to,.int .u64 te,.int .u64 tp,.int .i64 p] 49)).size))
  clear hb1
  obtain rfl:X=⟨0,0,0,0,⟨ts,to,te,tp⟩,p⟩:=by rw[hL.out];rfl
  clear hL
  have c0:=K.out.c 0 _ rfl
  have c1:=K.out.c 1 _ rfl
  have c2:=K.out.c 2 _ rfl
  have c3:=K.out.c 3 _ rfl
  have c4:=K.out.c 4 _ rfl
  have c5:=K.out.c 5 _ rfl
  have c6:=K.out.c 6 _ rfl
  have c7:=K.out.c 7 _ rfl
  have c8:=K.out.c 8 _ rfl
  have f1:=K.out.f 1
  have f2:=K.out.f 2
  have f3:=K.out.f 3
  have cz:=K.out.lt
  go_wp2_with fail
  all_goals(go_ret;exact⟨ret_bool (by rw[hT.out];simp_all [noRp,noTk]),(((HB.out.setCell (p:=⟨W.heap.size,1,none⟩) (Nat.le_refl _) _).setCell (p:=⟨W.heap.size,2,none⟩) (Nat.le_refl _) _).setCell (p:=⟨W.heap.size,3,none⟩) (Nat.le_refl _) _)⟩)
 |false=>
 cases q2 with
 |true=>
  go_enter Tryz.func114,Tryz.ntmps114
  go_wp2_with fail
  refine(C1.out _ _ (ba _ _) (by simp)).mono ?_
  rintro e w1 ⟨rfl,hb1⟩
  have K:=Lib.hid (C0.out.later hb1)
  have HB:=Lib.hid ((ba W (.cells #[.int .i64 0,.int .i64 s,.int .i64 n,.int .i64 d,.int .u32 ts,.int .u32 to,.int .u64 te,.int .u64 tp,.int .i64 p] 49)).trans (hb1.mono (ba W (.cells #[.int .i64 0,.int .i64 s,.int .i64 n,.int .i64 d,.int .u32 ts,.int .u32 to,.int .u64 te,.int .u64 tp,.int .i64 p] 49)).size))
  clear hb1
  have cg:g<w1.heap.size:=Nat.lt_of_lt_of_le hg HB.out.size
  go_wp2_with fail
  refine(C2.out _ _ HB.out rfl).mono ?_
  rintro e w2 ⟨rfl,hb2⟩
  replace K:=Lib.hid (K.out.later hb2)
  replace HB:=Lib.hid (HB.out.trans (hb2.mono HB.out.size))
  clear hb2 cg
  obtain rfl:X=⟨0,s,n,0,⟨ts,to,te,tp⟩,p⟩:=by rw[hL.out];rfl
  clear hL
  have c0:=K.out.c 0 _ rfl
  have c1:=K.out.c 1 _ rfl
  have c2:=K.out.c 2 _ rfl
  have c3:=K.out.c 3 _ rfl
  have c4:=K.out.c 4 _ rfl
  have c5:=K.out.c 5 _ rfl
  have c6:=K.out.c 6 _ rfl
  have c7:=K.out.c 7 _ rfl
  have c8:=K.out.c 8 _ rfl
  have f3:=K.out.f 3
  have cz:=K.out.lt
  go_wp2_with fail
  all_goals(go_ret;exact⟨ret_bool (by rw[hT.out];simp_all [noRp,noTk]),(HB.out.setCell (p:=⟨W.heap.size,3,none⟩) (Nat.le_refl _) _)⟩)
 |false=>
 cases q3 with
 |true=>
  go_enter Tryz.func114,Tryz.ntmps114
  go_wp2_with fail
  refine(C1.out _ _ (ba _ _) (by simp)).mono ?_
  rintro e w1 ⟨rfl,hb1⟩
  have K:=Lib.hid (C0.out.later hb1)
  have HB:=Lib.hid ((ba W (.cells #[.int .i64 0,.int .i64 s,.int .i64 n,.int .i64 d,.int .u32 ts,.int .u32 to,.int .u64 te,.int .u64 tp,.int .i64 p] 49)).trans (hb1.mono (ba W (.cells #[.int .i64 0,.int .i64 s,.int .i64 n,.int .i64 d,.int .u32 ts,.int .u32 to,.int .u64 te,.int .u64 tp,.int .i64 p] 49)).size))
  clear hb1
  have cg:g<w1.heap.size:=Nat.lt_of_lt_of_le hg HB.out.size
  go_wp2_with fail
  refine(C2.out _ _ HB.out rfl).mono ?_
  rintro e w2 ⟨rfl,hb2⟩
  replace K:=Lib.hid (K.out.later hb2)
  replace HB:=Lib.hid (HB.out.trans (hb2.mono HB.out.size))
  clear hb2 cg
  have cg:g<w2.heap.size:=Nat.lt_of_lt_of_le hg HB.out.size
  go_wp2_with fail
  refine(C3.out _ _ HB.out rfl).mono ?_
  rintro e w3 ⟨rfl,hb2⟩
  replace K:=Lib.hid (K.out.later hb2)
  replace HB:=Lib.hid (HB.out.trans (hb2.mono HB.out.size))
  clear hb2 cg
  obtain rfl:X=⟨0,s,n,d,noTk,p⟩:=by rw[hL.out];rfl
  clear hL
  have c0:=K.out.c 0 _ rfl
  have c1:=K.out.c 1 _ rfl
  have c2:=K.out.c 2 _ rfl
  have c3:=K.out.c 3 _ rfl
  have c4:=K.out.c 4 _ rfl
  have c5:=K.out.c 5 _ rfl
  have c6:=K.out.c 6 _ rfl
  have c7:=K.out.c 7 _ rfl
  have c8:=K.out.c 8 _ rfl
  have f4:=K.out.f 4
  have f5:=K.out.f 5
  have f6:=K.out.f 6
  have f7:=K.out.f 7
  have cz:=K.out.lt
  go_wp2_with fail
  all_goals(go_ret;exact⟨ret_bool (by rw[hT.out];simp_all [noRp,noTk]),((((HB.out.setCell (p:=⟨W.heap.size,4,none⟩) (Nat.le_refl _) _).setCell (p:=⟨W.heap.size,5,none⟩) (Nat.le_refl _) _).setCell (p:=⟨W.heap.size,6,none⟩) (Nat.le_refl _) _).setCell (p:=⟨W.heap.size,7,none⟩) (Nat.le_refl _) _)⟩)
 |false=>
 cases q4 with
 |true=>
  go_enter Tryz.func114,Tryz.ntmps114
  go_wp2_with fail
  refine(C1.out _ _ (ba _ _) (by simp)).mono ?_
  rintro e w1 ⟨rfl,hb1⟩
  have K:=Lib.hid (C0.out.later hb1)
  have HB:=Lib.hid ((ba W (.cells #[.int .i64 0,.int .i64 s,.int .i64 n,.int .i64 d,.int .u32 ts,.int .u32 to,.int .u64 te,.int .u64 tp,.int .i64 p] 49)).trans (hb1.mono (ba W (.cells #[.int .i64 0,.int .i64 s,.int .i64 n,.int .i64 d,.int .u32 ts,.int .u32 to,.int .u64 te,.int .u64 tp,.int .i64 p] 49)).size))
  clear hb1
  have cg:g<w1.heap.size:=Nat.lt_of_lt_of_le hg HB.out.size
  go_wp2_with fail
  refine(C2.out _ _ HB.out rfl).mono ?_
  rintro e w2 ⟨rfl,hb2⟩
  replace K:=Lib.hid (K.out.later hb2)
  replace HB:=Lib.hid (HB.out.trans (hb2.mono HB.out.size))
  clear hb2 cg
  have cg:g<w2.heap.size:=Nat.lt_of_lt_of_le hg HB.out.size
  go_wp2_with fail
  refine(C3.out _ _ HB.out rfl).mono ?_
  rintro e w3 ⟨rfl,hb2⟩
  replace K:=Lib.hid (K.out.later hb2)
  replace HB:=Lib.hid (HB.out.trans (hb2.mono HB.out.size))
  clear hb2 cg
  have cg:g<w3.heap.size:=Nat.lt_of_lt_of_le hg HB.out.size
  go_wp2_with fail
  refine(C4.out _ _ HB.out rfl).mono ?_
  rintro e w4 ⟨rfl,hb2⟩
  replace K:=Lib.hid (K.out.later hb2)
  replace HB:=Lib.hid (HB.out.trans (hb2.mono HB.out.size))
  clear hb2 cg
  obtain rfl:X=⟨0,s,n,d,⟨ts,to,te,tp⟩,0⟩:=by rw[hL.out];rfl
  clear hL
  have c0:=K.out.c 0 _ rfl
  have c1:=K.out.c 1 _ rfl
  have c2:=K.out.c 2 _ rfl
  have c3:=K.out.c 3 _ rfl
  have c4:=K.out.c 4 _ rfl
  have c5:=K.out.c 5 _ rfl
  have c6:=K.out.c 6 _ rfl
  have c7:=K.out.c 7 _ rfl
  have c8:=K.out.c 8 _ rfl
  have f8:=K.out.f 8
  have cz:=K.out.lt
  go_wp2_with fail
  all_goals(go_ret;exact⟨ret_bool (by rw[hT.out];simp_all [noRp,noTk]),(HB.out.setCell (p:=⟨W.heap.size,8,none⟩) (Nat.le_refl _) _)⟩)
 |false=>
  go_enter Tryz.func114,Tryz.ntmps114
  go_wp2_with fail
  refine(C1.out _ _ (ba _ _) (by simp)).mono ?_
  rintro e w1 ⟨rfl,hb1⟩
  have K:=Lib.hid (C0.out.later hb1)
  have HB:=Lib.hid ((ba W (.cells #[.int .i64 0,.int .i64 s,.int .i64 n,.int .i64 d,.int .u32 ts,.int .u32 to,.int .u64 te,.int .u64 tp,.int .i64 p] 49)).trans (hb1.mono (ba W (.cells #[.int .i64 0,.int .i64 s,.int .i64 n,.int .i64 d,.int .u32 ts,.int .u32 to,.int .u64 te,.int .u64 tp,.int .i64 p] 49)).size))
  clear hb1
  have cg:g<w1.heap.size:=Nat.lt_of_lt_of_le hg HB.out.size
  go_wp2_with fail
  refine(C2.out _ _ HB.out rfl).mono ?_
  rintro e w2 ⟨rfl,hb2⟩
  replace K:=Lib.hid (K.out.later hb2)
  replace HB:=Lib.hid (HB.out.trans (hb2.mono HB.out.size))
  clear hb2 cg
  have cg:g<w2.heap.size:=Nat.lt_of_lt_of_le hg HB.out.size
  go_wp2_with fail
  refine(C3.out _ _ HB.out rfl).mono ?_
  rintro e w3 ⟨rfl,hb2⟩
  replace K:=Lib.hid (K.out.later hb2)
  replace HB:=Lib.hid (HB.out.trans (hb2.mono HB.out.size))
  clear hb2 cg
  have cg:g<w3.heap.size:=Nat.lt_of_lt_of_le hg HB.out.size
  go_wp2_with fail
  refine(C4.out _ _ HB.out rfl).mono ?_
  rintro e w4 ⟨rfl,hb2⟩
  replace K:=Lib.hid (K.out.later hb2)
  replace HB:=Lib.hid (HB.out.trans (hb2.mono HB.out.size))
  clear hb2 cg
  obtain rfl:X=⟨0,s,n,d,⟨ts,to,te,tp⟩,p⟩:=by rw[hL.out];rfl
  clear hL
  have c0:=K.out.c 0 _ rfl
  have c1:=K.out.c 1 _ rfl
  have c2:=K.out.c 2 _ rfl
  have c3:=K.out.c 3 _ rfl
  have c4:=K.out.c 4 _ rfl
  have c5:=K.out.c 5 _ rfl
  have c6:=K.out.c 6 _ rfl
  have c7:=K.out.c 7 _ rfl
  have c8:=K.out.c 8 _ rfl
  have cz:=K.out.lt
  go_wp2_with fail
  all_goals(go_ret;exact⟨ret_bool (by rw[hT.out];simp_all [noRp,noTk]),HB.out⟩)
end Go.Proofs.YtlckmjiioohcmaaGreatDoor
