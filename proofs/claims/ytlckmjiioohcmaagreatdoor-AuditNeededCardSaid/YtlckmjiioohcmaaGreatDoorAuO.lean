/-
  Walks of the audit reader's methods rules and broken. Conditions: as each theorem says.
-/
import Derived.Test.YtlckmjiioohcmaaGreatDoorAuN
import Derived.Laws.EntriesVeiled
namespace Go.Proofs.YtlckmjiioohcmaaGreatDoor
open Go.RowKit
def ruleCells (g B:Nat):List Value:=(List.range 11).flatMap fun k:Nat=>[Value.int .i64 ((k:Int)+3),.func (.func (fnId k)) (fnA g k) (fnL B k)]
theorem ruleCells_at (g B k:Nat) (hk:k<11):(ruleCells g B)[k*2]?=some (.int .i64 ((k:Int)+3))∧(ruleCells g B)[k*2+1]?=some (.func (.func (fnId k)) (fnA g k) (fnL B k)):=by
 match k,hk with
 |0,_=>exact⟨rfl,rfl⟩
 |1,_=>exact⟨rfl,rfl⟩
 |2,_=>exact⟨rfl,rfl⟩
 |3,_=>exact⟨rfl,rfl⟩
 |4,_=>exact⟨rfl,rfl⟩
 |5,_=>exact⟨rfl,rfl⟩
 |6,_=>exact⟨rfl,rfl⟩
 |7,_=>exact⟨rfl,rfl⟩
 |8,_=>exact⟨rfl,rfl⟩
 |9,_=>exact⟨rfl,rfl⟩
 |10,_=>exact⟨rfl,rfl⟩
def RulesPost (g:Nat) (w:World) (e:Ending) (w':World):Prop:=∃B b,e=.returned (.slice (some ⟨b,0,none⟩) 11 11)∧Below w.heap.size w w'∧w'.cell? ⟨B,0,none⟩=some (.pointer (some ⟨g,0,none⟩))∧Cells w' b (ruleCells g B)
set_option maxHeartbeats 2000000 in
theorem rules_any (g:Nat) (w:World):Calls Tryz.prog 117 #[.pointer (some ⟨g,0,none⟩)] w (RulesPost g w):=by
 go_enter Tryz.func117,Tryz.ntmps117
 go_wp2
 go_ret
 have h:=Cells.new (w.alloc (.cells #[.pointer (some ⟨g,0,none⟩)] 101)) (ruleCells g w.heap.size) 176
 rw[World.size_alloc] at h
 exact⟨w.heap.size,w.heap.size+1,rfl,bal (ba _ _),cell_later (ba _ _) (by simp),h⟩
def brokenA (s:Au) (op:MOp) (rp:MRp):Int:=if moreA op.kind rp then 1 else if rp.err≠0 then(if isB [9] op.kind&&validA s.seats op.tk then 2 else 0) else
 match(List.range 11).find? (ruleA s op rp) with
 |some k=>(k:Int)+3
 |none=>0
theorem find_range {p:Nat→Bool} {n k:Nat} (hk:k<n) (hp:p k=true) (hj:∀j,j<k→p j=false):(List.range n).find? p=some k:=by
 obtain⟨m,rfl⟩:∃m,n=k+(m+1):=⟨n-k-1,by omega⟩
 rw[List.range_add,List.find?_append,List.find?_eq_none.2 (fun x hx=>by rw[hj x (List.mem_range.1 hx)];simp)]
 simp[List.range_succ_eq_map,hp]
theorem find_range_none {p:Nat→Bool} {n:Nat} (hj:∀j,j<n→p j=false):(List.range n).find? p=none:=
 List.find?_eq_none.2 fun x hx=>by rw[hj x (List.mem_range.1 hx)];simp
set_option maxHeartbeats 4000000 in
theorem broken_any {W:World} {g:Nat} {F:Frm} {s:Au} {op:MOp} {rp:MRp} (R:Rd W g F s op rp) (ok:Aok s):
 Calls Tryz.prog 82 #[.pointer (some ⟨g,0,none⟩)] W fun e w'=>e=.returned (.int .i64 (brokenA s op rp))∧Below W.heap.size W w':=by
 have hT:=Lib.hid (show brokenA s op rp=if moreA op.kind rp then 1 else if rp.err≠0 then(if isB [9] op.kind&&validA s.seats op.tk then 2 else 0) else match(List.range 11).find? (ruleA s op rp) with
  |some k=>(k:Int)+3
  |none=>0 from rfl)
 generalize brokenA s op rp=V at hT⊢
 have C1:=Lib.hid (fun w (hw:Below W.heap.size W w)=>more_any g op.kind rp w ((R.up hw).cs.c 7 _ rfl) ((R.up hw).cs.c 19 _ rfl) ((R.up hw).cs.c 20 _ rfl) ((R.up hw).cs.c 21 _ rfl) ((R.up hw).cs.c 22 _ rfl) ((R.up hw).cs.c 23 _ rfl) ((R.up hw).cs.c 24 _ rfl) ((R.up hw).cs.c 25 _ rfl) ((R.up hw).cs.c 26 _ rfl) ((R.up hw).cs.c 27 _ rfl))
 have C2:=Lib.hid (R.isC [9] (by simp[Bd]) (by simp))
 have C3:=Lib.hid R.validC
 have RH:=Lib.hid R
 generalize moreA op.kind rp=q1 at C1 hT
 generalize isB [9] op.kind=q2 at C2 hT
 generalize validA s.seats op.tk=q3 at C3 hT
 cases q1 with
 |true=>
  clear R
  go_enter Tryz.func82,Tryz.ntmps82
  go_wp2_with fail
  refine(C1.out _ (Below.refl _ _)).mono ?_
  rintro e w1 ⟨rfl,hb⟩
  go_wp2_with fail
  go_ret
  exact⟨ret_int (by rw[hT.out];rfl),hb⟩
 |false=>
  by_cases he:rp.err=0
  case neg=>
   have t0:(rp.err !=0)=true:=by simpa using he
   clear R
   go_enter Tryz.func82,Tryz.ntmps82
   go_wp2_with fail
   refine(C1.out _ (Below.refl _ _)).mono ?_
   rintro e w1 ⟨rfl,hb⟩
   have R1:=RH.out.up hb
   have c19:=R1.cs.c 19 _ rfl
   have y1:=R1.cs.lt
   have HB:=Lib.hid hb
   clear hb R1
   go_wp2_with fail
   refine(C2.out _ _ HB.out rfl).mono ?_
   rintro e w2 ⟨rfl,hb⟩
   replace HB:=Lib.hid (HB.out.trans (hb.mono HB.out.size))
   clear hb c19 y1
   cases q2 with
   |false=>
    have R1:=RH.out.up HB.out
    have c19:=R1.cs.c 19 _ rfl
    have y1:=R1.cs.lt
    clear R1
    go_wp2_with fail
    go_ret
    exact⟨ret_int (by rw[hT.out];simp[he]),HB.out⟩
   |true=>
    go_wp2_with fail
    refine(C3.out _ HB.out).mono ?_
    rintro e w3 ⟨rfl,hb⟩
    replace HB:=Lib.hid (HB.out.trans (hb.mono HB.out.size))
    clear hb
    have R1:=RH.out.up HB.out
    have c19:=R1.cs.c 19 _ rfl
    have y1:=R1.cs.lt
    clear R1
    cases q3 with
    |true=>
     go_wp2_with fail
     go_ret
     exact⟨ret_int (by rw[hT.out];simp[he]),HB.out⟩
    |false=>
     go_wp2_with fail
     go_ret
     exact⟨ret_int (by rw[hT.out];simp[he]),HB.out⟩
  case pos=>
   have t0:(rp.err !=0)=false:=by simpa using he
   clear R
   go_enter Tryz.func82,Tryz.ntmps82
   go_wp2_with fail
   refine(C1.out _ (Below.refl _ _)).mono ?_
   rintro e w1 ⟨rfl,hb⟩
   have R1:=RH.out.up hb
   have c19:=R1.cs.c 19 _ rfl
   have y1:=R1.cs.lt
   have HB:=Lib.hid hb
   clear hb R1
   rw[he] at c19
   go_wp2_with fail
   refine(rules_any g _).mono ?_
   rintro e w2 ⟨B,b,rfl,hb,hB,kb⟩
   have HB2:=Lib.hid (HB.out.trans (hb.mono HB.out.size))
   have HC:=Lib.hid hB
   have KB:=Lib.hid kb
   have yb:=kb.lt
   clear hb hB kb c19 y1 C1 C2 C3
   have hT':=Lib.hid (show V=match(List.range 11).find? (ruleA s op rp) with
    |some k=>(k:Int)+3
    |none=>0 by rw[hT.out];simp[he])
   clear hT
   go_wp2_with fail
   go_loopw [34] (fun i wr=> ∃k:Nat,k≤11∧i=.int .i64 k∧Below w2.heap.size w2 wr∧Hid (∀j,j<k→ruleA s op rp j=false)) (fun i _=>11-(intOf i).toNat)
   case atStart=>exact⟨0,by omega,rfl,Below.refl _ _,Lib.hid fun j hj=>by omega⟩
   case round=>
    obtain⟨k,hk,rfl,hb,hall⟩:=hrel
    have HB3:=Lib.hid hb
    by_cases hlt:k<11
    ·have C:=Lib.hid (fun W2 (hb2:Below wr.heap.size wr W2)=>ruleC (RH.out.up (HB2.out.trans ((hb.trans (hb2.mono hb.size)).mono HB2.out.size))) ok (cell_later (hb.trans (hb2.mono hb.size)) HC.out) k hlt fun h=>hall.out 2 h)
     have kb:=KB.out.later hb
     obtain⟨r1,r2⟩:=ruleCells_at g B k hlt
     have d0:=kb.c _ _ r1
     have d1:=kb.c _ _ r2
     have eg:=fnId_enters k hlt
     have yb:=kb.lt
     clear hb kb r1 r2
     cases hq:ruleA s op rp k with
     |true=>
      rw[hq] at C
      go_wp2_with fail
      refine(C.out _ (bal (Below.refl _ _))).mono ?_
      rintro e w4 ⟨rfl,hb4⟩
      have e0:w4.cell? ⟨wr.heap.size,0,none⟩=some (.int .i64 ((k:Int)+3)):=cell_later hb4 (by simp)
      have z4:wr.heap.size<w4.heap.size:=by have:=hb4.size;simp at this;omega
      have HB4:=Lib.hid (HB2.out.trans ((HB3.out.trans (((bal (Below.refl _ _)).trans (hb4.mono (by simp))).mono HB3.out.size)).mono HB2.out.size))
      have HV:=Lib.hid (show V=(k:Int)+3 by rw[hT'.out,find_range hlt hq hall.out])
      clear hb4 d0 d1 hq
      go_wp2_with fail
      go_ret
      exact⟨ret_int HV.out.symm,HB4.out⟩
     |false=>
      rw[hq] at C
      go_wp2_with fail
      refine(C.out _ (bal (Below.refl _ _))).mono ?_
      rintro e w4 ⟨rfl,hb4⟩
      have HB4:=Lib.hid (HB3.out.trans (((bal (Below.refl _ _)).trans (hb4.mono (by simp))).mono HB3.out.size))
      have HQ:=Lib.hid hq
      clear hb4 d0 d1 hq
      go_wp2_with fail
      go_roundw
      case rel=>
       refine⟨k+1,by omega,by go_num,HB4.out,Lib.hid fun j hj=> ?_⟩
       by_cases e:j=k
       ·subst e;exact HQ.out
       ·exact hall.out j (by omega)
      case measure=>simp[intOf];omega
    ·clear hb
     go_wp2_with fail
     go_ret
     exact⟨ret_int (by rw[hT'.out,find_range_none fun j hj=>hall.out j (by omega)]),HB2.out.trans (HB3.out.mono HB2.out.size)⟩
end Go.Proofs.YtlckmjiioohcmaaGreatDoor
