/-
  The audit reader's rules as one function of their number, and what each closure answers. Conditions: as each theorem says.
-/
import Derived.Test.YtlckmjiioohcmaaGreatDoorAuM
namespace Go.Proofs.YtlckmjiioohcmaaGreatDoor
open Go.RowKit
structure Aok (s:Au):Prop where
 hc:(checkV s.ve).2=0
 hn:(s.seats.length:Int)=sum (allRows s.ve)
 hw:s.waiting.length=s.ve.secs.length
 hnow:0≤s.now
 hbad:∀x∈s.seats,badA x=false
 hwait:∀i x,s.waiting[i]?=some x→0≤x∧x≤queueOf s.ve i
theorem isB_iff {ks:List Int} {k:Int}:isB ks k=true↔k∈ks:=by
 simp only[isB,List.any_eq_true,beq_iff_eq]
 constructor
 ·rintro⟨x,h,rfl⟩;exact h
 ·intro h;exact⟨k,h,rfl⟩
theorem Aok.len {s:Au} (h:Aok s):s.seats.length≤4096:=by
 have:=(checkV_ok h.hc).2.1
 have:=h.hn
 omega
theorem Aok.queue {s:Au} (h:Aok s) (i:Nat):queueOf s.ve i≤64:=by
 unfold queueOf
 split
 ·rename_i x hx
  obtain⟨hi,rfl⟩:=List.getElem?_eq_some_iff.1 hx
  exact(secE_ok ((checkV_ok h.hc).1.2 i hi)).2.2.2.1
 ·omega
set_option maxHeartbeats 1000000 in
theorem lost_any {W:World} {g:Nat} {F:Frm} {s:Au} {op:MOp} {rp:MRp} (R:Rd W g F s op rp):
 Calls Tryz.prog 154 #[.pointer (some ⟨g,0,none⟩)] W fun e w'=>e=.returned (.bool (lostA s op rp))∧Below W.heap.size W w':=by
 cases hq1:isB [1,12] op.kind with
 |true=>exact lostT_any R hq1
 |false=>
  cases hq2:isB [10,11,3] op.kind with
  |false=>exact lostS_any R hq1 hq2
  |true=>
   by_cases hx:op.section_<0∨(s.waiting.length:Int)≤op.section_
   ·exact lostX_any R hq1 hq2 hx
   ·obtain⟨k,hk⟩:=Int.eq_ofNat_of_zero_le (show 0≤op.section_ by omega)
    have hlt:k<s.waiting.length:=by omega
    cases hq3:isB [3] op.kind with
    |false=>exact lostJ_any R hq1 hq2 hq3 hk hlt
    |true=>
     by_cases hn:rp.n≠op.n∨op.n<1∨8<op.n
     ·exact lostN_any R hq1 hq2 hq3 hk hlt hn
     ·exact lostP_any R hq1 hq2 hq3 hk hlt (by omega) (by omega) (by omega)
theorem lost_seat {s:Au} {op:MOp} {rp:MRp} (h:lostA s op rp=false) (hq1:isB [1,12] op.kind=false) (hq2:isB [10,11,3] op.kind=false):∃k:Nat,seatA op=(k:Int)∧k<s.seats.length:=by
 simp only[lostA,hq1,hq2] at h
 simp at h
 obtain⟨k,hk⟩:=Int.eq_ofNat_of_zero_le h.1
 exact⟨k,hk,by omega⟩
theorem lost_section {s:Au} {op:MOp} {rp:MRp} (h:lostA s op rp=false) (hq2:isB [10,11,3] op.kind=true):∃k:Nat,op.section_=(k:Int)∧k<s.waiting.length:=by
 have hq1:isB [1,12] op.kind=false:=by
  have:=isB_iff.1 hq2
  simp at this
  simp[isB];omega
 by_cases hx:op.section_<0∨(s.waiting.length:Int)≤op.section_
 ·simp[lostA,hq1,hq2,hx] at h
 ·obtain⟨k,hk⟩:=Int.eq_ofNat_of_zero_le (show 0≤op.section_ by omega)
  exact⟨k,hk,by omega⟩
theorem sum_take_leA {l:List Int} (h:∀x,x∈l→0≤x):∀{k:Nat},(hk:k<l.length)→sum (l.take k)+l[k]≤sum l:=by
 induction l with
 |nil=>intro k hk;simp at hk
 |cons x l ih=>
  intro k hk
  have hl:0≤sum l:=(sum_bd (m:=0) (l:=l) (by omega)|>fun _=>by
   clear ih hk
   have:∀l:List Int,(∀x,x∈l→0≤x)→0≤sum l:=by
    intro l
    induction l with
    |nil=>intro _;simp[sum]
    |cons y l ih=>intro h;have:=h y (by simp);have:=ih fun z hz=>h z (by simp[hz]);simp only[sum];omega
   exact this l fun y hy=>h y (by simp[hy]))
  cases k with
  |zero=>simp[sum];omega
  |succ k=>
   have:=ih (fun y hy=>h y (by simp[hy])) (k:=k) (by simpa using hk)
   simp only[List.take_succ_cons,sum,List.getElem_cons_succ]
   omega
theorem sum_app (a b:List Int):sum (a++b)=sum a+sum b:=by
 induction a with
 |nil=>simp[sum]
 |cons x a ih=>simp only[List.cons_append,sum,ih];omega
theorem sum_flat_take {secs:List Sec} (h:∀x,x∈secs.flatMap (·.rows)→0≤x) {i:Nat} (hi:i<secs.length):sum ((secs.take i).flatMap (·.rows))+sum secs[i].rows≤sum (secs.flatMap (·.rows)):=by
 have e:secs.flatMap (·.rows)=(secs.take i).flatMap (·.rows)++(secs[i].rows++(secs.drop (i+1)).flatMap (·.rows)):=by
  have h1:secs=secs.take i++secs[i]::secs.drop (i+1):=by rw[←List.drop_eq_getElem_cons hi,List.take_append_drop]
  have h2:=congrArg (List.flatMap (fun x:Sec=>x.rows)) h1
  rwa[List.flatMap_append,List.flatMap_cons] at h2
 have hn:∀l:List Int,(∀x,x∈l→0≤x)→0≤sum l:=by
  intro l
  induction l with
  |nil=>intro _;simp[sum]
  |cons y l ih=>intro h;have:=h y (by simp);have:=ih fun z hz=>h z (by simp[hz]);simp only[sum];omega
 have:=hn ((secs.drop (i+1)).flatMap (·.rows)) (fun x hx=>h x (by rw[e];simp only[List.mem_append];exact .inr (.inr hx)))
 rw[e,sum_app,sum_app]
 omega
theorem lost_block {s:Au} {op:MOp} {rp:MRp} (ok:Aok s) (h:lostA s op rp=false) (hq3:isB [3] op.kind=true):∃k m:Nat,rp.seat=(k:Int)∧rp.n=(m:Int)∧k+m≤s.seats.length∧1≤m:=by
 have hk3:op.kind=3:=by have:=isB_iff.1 hq3;simpa using this
 have hq1:isB [1,12] op.kind=false:=by rw[hk3];rfl
 have hq2:isB [10,11,3] op.kind=true:=by rw[hk3];rfl
 obtain⟨j,hj,hjl⟩:=lost_section h hq2
 by_cases hx:rp.n≠op.n∨op.n<1∨8<op.n
 ·exfalso
  simp only[lostA,hq1,hq2,hq3] at h
  simp[hj] at h
  omega
 ·simp only[lostA,hq1,hq2,hq3] at h
  have a1:decide (op.section_<0)=false:=decide_eq_false (by omega)
  have a2:decide ((s.waiting.length:Int)≤op.section_)=false:=decide_eq_false (by omega)
  have a3:(rp.n !=op.n)=false:=by simp;omega
  have a4:decide (op.n<1)=false:=decide_eq_false (by omega)
  have a5:decide (8<op.n)=false:=decide_eq_false (by omega)
  rw[a1,a2,a3,a4,a5] at h
  simp only[Bool.or_self,Bool.false_eq_true,if_false,Bool.not_true,Bool.or_eq_false_iff,decide_eq_false_iff_not,bne_eq_false_iff_eq] at h
  obtain⟨⟨h1,h2⟩,h3⟩:=h
  obtain⟨i,hi,k,hk,d,e,d0,d1,d2,e2⟩:=placeV_ok h1
  rw[e] at h3
  simp only[Int.toNat_natCast,rowOf,List.getElem?_eq_getElem hi,List.getElem?_eq_getElem hk] at h3
  have hall:∀x,x∈s.ve.secs.flatMap (·.rows)→0≤x:=fun x hx=>by
   obtain⟨y,hy,hx⟩:=List.mem_flatMap.1 hx
   obtain⟨z,hz,rfl⟩:=List.getElem_of_mem hy
   have:=(secE_ok ((checkV_ok ok.hc).1.2 z hz)).2.1 x hx
   omega
  have s1:=sum_flat_take hall hi
  have s2:=sum_take_leA (l:=s.ve.secs[i].rows) (fun x hx=>hall x (List.mem_flatMap.2 ⟨_,List.getElem_mem hi,hx⟩)) hk
  have hn:∀l:List Int,(∀x,x∈l→0≤x)→0≤sum l:=by
   intro l
   induction l with
   |nil=>intro _;simp[sum]
   |cons y l ih=>intro h;have:=h y (by simp);have:=ih fun z hz=>h z (by simp[hz]);simp only[sum];omega
  have p1:=hn ((s.ve.secs.take i).flatMap (·.rows)) fun x hx=>by
   obtain⟨y,hy,hx⟩:=List.mem_flatMap.1 hx
   exact hall x (List.mem_flatMap.2 ⟨y,List.mem_of_mem_take hy,hx⟩)
  have p2:=hn (s.ve.secs[i].rows.take k) fun x hx=>hall x (List.mem_flatMap.2 ⟨_,List.getElem_mem hi,List.mem_of_mem_take hx⟩)
  have hlen:=ok.hn
  simp only[allRows] at hlen
  obtain⟨k',hk'⟩:=Int.eq_ofNat_of_zero_le (show 0≤rp.seat by omega)
  obtain⟨m',hm'⟩:=Int.eq_ofNat_of_zero_le (show 0≤rp.n by omega)
  exact⟨k',m',hk',hm',by omega,by omega⟩
def ruleA (s:Au) (op:MOp) (rp:MRp):Nat→Bool
 |0=>sessionA s op
 |1=>ownerA op
 |2=>lostA s op rp
 |3=>clockA s op
 |4=>lateA s.ve s.now op.kind rp.deadline
 |5=>takenA s.seats op rp
 |6=>holderA s.seats op
 |7=>validB s.seats op
 |8=>soldA s.seats op
 |9=>wrongA s.seats op rp
 |10=>listA s.ve s.waiting op rp
 |_=>false
def fnId:Nat→FuncId
 |0=>152
 |1=>153
 |2=>154
 |3=>155
 |4=>156
 |5=>157
 |6=>159
 |7=>160
 |8=>161
 |9=>162
 |_=>163
def boundB (k:Nat):Bool:=k==2||k==4||k==9||k==10
def fnA (g k:Nat):Array Value:=if boundB k then #[.pointer (some ⟨g,0,none⟩)] else #[]
def fnL (B k:Nat):Array Value:=if boundB k then #[] else #[.pointer (some ⟨B,0,none⟩)]
theorem fnId_enters (k:Nat) (hk:k<11) (args:Array Value) (w:World):(callFunc (fnId k) args).run Tryz.prog w=.ok (.enter (fnId k) args) w:=by
 match k,hk with
 |0,_=>exact enters_fn Tryz.func152 (by kernel_rfl) rfl args w
 |1,_=>exact enters_fn Tryz.func153 (by kernel_rfl) rfl args w
 |2,_=>exact enters_fn Tryz.func154 (by kernel_rfl) rfl args w
 |3,_=>exact enters_fn Tryz.func155 (by kernel_rfl) rfl args w
 |4,_=>exact enters_fn Tryz.func156 (by kernel_rfl) rfl args w
 |5,_=>exact enters_fn Tryz.func157 (by kernel_rfl) rfl args w
 |6,_=>exact enters_fn Tryz.func159 (by kernel_rfl) rfl args w
 |7,_=>exact enters_fn Tryz.func160 (by kernel_rfl) rfl args w
 |8,_=>exact enters_fn Tryz.func161 (by kernel_rfl) rfl args w
 |9,_=>exact enters_fn Tryz.func162 (by kernel_rfl) rfl args w
 |10,_=>exact enters_fn Tryz.func163 (by kernel_rfl) rfl args w
theorem ruleC {W:World} {g:Nat} {F:Frm} {s:Au} {op:MOp} {rp:MRp} (R:Rd W g F s op rp) (ok:Aok s) {B:Nat} (hB:W.cell? ⟨B,0,none⟩=some (.pointer (some ⟨g,0,none⟩))) (k:Nat) (hk:k<11) (hl:2<k→lostA s op rp=false):
 Calls Tryz.prog (fnId k) (fnA g k++fnL B k) W fun e w'=>e=.returned (.bool (ruleA s op rp k))∧Below W.heap.size W w':=by
 have hlen:=ok.len
 match k,hk,hl with
 |0,_,_=>exact session_any R hB
 |1,_,_=>exact owner_any R hB
 |2,_,_=>exact lost_any R
 |3,_,_=>exact clock_any R hB
 |4,_,_=>exact late_any g s.ve s.now op.kind rp.deadline W (R.cs.c 1 _ rfl) (R.cs.c 2 _ rfl) (R.cs.c 4 _ rfl) (R.cs.c 7 _ rfl) (R.cs.c 22 _ rfl) R.bv.2.1 R.bv.2.2 R.bn
 |5,_,hl=>
  replace hl:=hl (by omega)
  cases hq:isB [2,3] op.kind with
  |false=>exact takenN_any R hB hq
  |true=>
   cases hq3:isB [3] op.kind with
   |true=>
    obtain⟨k,m,h1,h2,h3,h4⟩:=lost_block ok hl hq3
    exact takenB_any R hB hq hq3 h1 h2 h3 h4
   |false=>
    have hk2:op.kind=2:=by
     have:=isB_iff.1 hq;simp at this;have h3:¬op.kind=3:=fun e=>by rw[e] at hq3;cases hq3
     omega
    obtain⟨k,h1,h2⟩:=lost_seat hl (by rw[hk2];rfl) (by rw[hk2];rfl)
    exact takenS_any R hB hq hq3 (by rw[←h1,seatA,hk2];rfl) h2
 |6,_,hl=>
  replace hl:=hl (by omega)
  cases hq:isB [4,5] op.kind with
  |false=>exact holderN_any R hB hq
  |true=>
   have hk2:=isB_iff.1 hq
   simp at hk2
   obtain⟨k,h1,h2⟩:=lost_seat hl (by simp[isB];omega) (by simp[isB];omega)
   exact holderY_any R hB hq (k:=k) (by rw[←h1,seatA,if_pos (by omega)]) h2
 |7,_,_=>exact validB_any R hB
 |8,_,hl=>
  replace hl:=hl (by omega)
  cases hq:isB [8] op.kind with
  |false=>exact soldN_any R hB hq
  |true=>
   have hk2:=isB_iff.1 hq
   simp at hk2
   obtain⟨k,h1,h2⟩:=lost_seat hl (by simp[isB];omega) (by simp[isB];omega)
   exact soldY_any R hB hq (k:=k) (by rw[←h1,seatA,if_pos (by omega)]) h2
 |9,_,hl=>
  replace hl:=hl (by omega)
  cases hq:isB [5,6] op.kind with
  |false=>exact wrongN_any R hq
  |true=>
   have hk2:=isB_iff.1 hq
   simp at hk2
   obtain⟨k,h1,h2⟩:=lost_seat hl (by simp[isB];omega) (by simp[isB];omega)
   cases hq6:isB [6] op.kind with
   |true=>exact wrong6_any R hq hq6 h1 h2 (by omega)
   |false=>exact wrong5_any R hq hq6 h1 h2 (by omega)
 |10,_,hl=>
  replace hl:=hl (by omega)
  cases hq:isB [11] op.kind with
  |true=>
   have hk2:=isB_iff.1 hq
   simp at hk2
   obtain⟨k,h1,h2⟩:=lost_section hl (by simp[isB];omega)
   exact list11_any R hq h1 h2
  |false=>
   cases hq2:isB [10] op.kind with
   |false=>exact listN_any R hq hq2
   |true=>
    have hk2:=isB_iff.1 hq2
    simp at hk2
    obtain⟨k,h1,h2⟩:=lost_section hl (by simp[isB];omega)
    have h3:=(ok.hwait k _ (List.getElem?_eq_getElem h2)).2
    have h4:=ok.queue k
    exact list10_any R hq hq2 h1 h2 (by have:=ok.hw;omega) (by omega)
end Go.Proofs.YtlckmjiioohcmaaGreatDoor
