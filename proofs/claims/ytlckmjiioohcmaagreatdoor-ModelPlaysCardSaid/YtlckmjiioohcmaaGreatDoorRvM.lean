/-
  Walks of groundlingref05.both, Add; groundlingref01.lower, digit, Name; groundlingref15.within. Conditions: as each theorem says.
  Walks of groundlingref15.section, Places, Check, Seats. Conditions: as each theorem says.
  Walks of groundlingref15.Places, Check, Seats. Conditions: as each theorem says.
  The place of a seat: what find answers is the place in the list of all places. Conditions: as each theorem says.
-/
import Derived.Test.YtlckmjiioohcmaaGreatDoorVnI
import Derived.Test.YtlckmjiioohcmaaGreatDoorLib
namespace Go.Proofs.YtlckmjiioohcmaaGreatDoor
open Go.RowKit
theorem both_any (a b:Int) (w:World):Calls Tryz.prog 107 #[.int .i64 a,.int .i64 b] w fun e w'=>e=.returned (.int .i64 (if a<0∨b<0 then 7 else 0))∧Below w.heap.size w w':=by
 by_cases h1:a<0
 ·have hT:=Lib.hid (show(if a<0∨b<0 then(7:Int) else 0)=7 by rw[if_pos (.inl h1)])
  have t1:decide (a<0)=true:=decide_eq_true h1
  go_enter Tryz.func107,Tryz.ntmps107
  go_wp2
  go_ret
  exact⟨by first|rfl|(rw[hT.out];rfl),Below.refl _ _⟩
 have t1:decide (a<0)=false:=decide_eq_false h1
 by_cases h2:b<0
 ·have hT:=Lib.hid (show(if a<0∨b<0 then(7:Int) else 0)=7 by rw[if_pos (.inr h2)])
  have t2:decide (b<0)=true:=decide_eq_true h2
  go_enter Tryz.func107,Tryz.ntmps107
  go_wp2
  go_ret
  exact⟨by first|rfl|(rw[hT.out];rfl),Below.refl _ _⟩
 ·have hT:=Lib.hid (show(if a<0∨b<0 then(7:Int) else 0)=0 by rw[if_neg (by omega)])
  have t2:decide (b<0)=false:=decide_eq_false h2
  go_enter Tryz.func107,Tryz.ntmps107
  go_wp2
  go_ret
  exact⟨by first|rfl|(rw[hT.out];rfl),Below.refl _ _⟩
theorem rAdd_any (t d:Int) (w:World) (ht:Bd t) (hd:Bd d):
 Calls Tryz.prog 69 #[.int .i64 t,.int .i64 d] w fun e w'=>e=.returned (.tuple #[.int .i64 (addT t d).1,.int .i64 (addT t d).2])∧Below w.heap.size w w':=by
 have C:=Lib.hid (both_any t d w)
 unfold Bd at ht hd
 by_cases h0:t<0∨d<0
 ·have hT:=Lib.hid (show addT t d=(0,7) by rw[addT,if_pos h0])
  rw[if_pos h0] at C
  clear h0
  go_enter Tryz.func69,Tryz.ntmps69
  go_wp2_with (go_at_call 107;refine C.out.mono ?_;rintro e w' ⟨rfl,hb⟩)
  go_ret2
  exact⟨by rw[hT.out];rfl,hb⟩
 ·rw[if_neg h0] at C
  have ht0:0≤t:=by omega
  have hd0:0≤d:=by omega
  by_cases h1:9223372036854775807<t+d
  ·have hT:=Lib.hid (show addT t d=(9223372036854775807,0) by rw[addT,if_neg h0,if_pos h1])
   have t1:9223372036854775807-d<t:=by omega
   clear h0
   go_enter Tryz.func69,Tryz.ntmps69
   go_wp2_with (go_at_call 107;refine C.out.mono ?_;rintro e w' ⟨rfl,hb⟩)
   go_ret2
   exact⟨by rw[hT.out];rfl,hb⟩
  ·have hT:=Lib.hid (show addT t d=(t+d,0) by rw[addT,if_neg h0,if_neg h1])
   have t1:t≤9223372036854775807-d:=by omega
   clear h0
   go_enter Tryz.func69,Tryz.ntmps69
   go_wp2_with (go_at_call 107;refine C.out.mono ?_;rintro e w' ⟨rfl,hb⟩)
   go_ret2
   exact⟨by rw[hT.out];rfl,hb⟩
def digB (c:UInt8):Bool:=decide (48≤c.toNat)&&decide (c.toNat≤57)
theorem lower_any (c:UInt8) (w:World):Calls Tryz.prog 167 #[.int .u8 (c.toNat:Int)] w fun e w'=>e=.returned (.bool (lowB c))∧w'=w:=by
 have hc:=c.toNat_lt
 by_cases h1:(c.toNat:Int)<97
 ·have hT:=Lib.hid (show lowB c=false by simp only[lowB];simp;omega)
  go_enter Tryz.func167,Tryz.ntmps167
  go_wp2
  go_ret
  exact⟨ret_bool hT.out.symm,rfl⟩
 have g1:(97:Int)≤(c.toNat:Int):=by omega
 by_cases h2:(122:Int)<(c.toNat:Int)
 ·have g2:decide ((c.toNat:Int)≤122)=false:=decide_eq_false (by omega)
  have hT:=Lib.hid (show lowB c=false by simp only[lowB];simp;omega)
  go_enter Tryz.func167,Tryz.ntmps167
  go_wp2
  go_ret
  exact⟨ret_bool hT.out.symm,rfl⟩
 ·have hT:=Lib.hid (show lowB c=true by simp only[lowB];simp;omega)
  have g2:(c.toNat:Int)≤122:=by omega
  go_enter Tryz.func167,Tryz.ntmps167
  go_wp2
  go_ret
  exact⟨ret_bool hT.out.symm,rfl⟩
theorem digit_any (c:UInt8) (w:World):Calls Tryz.prog 168 #[.int .u8 (c.toNat:Int)] w fun e w'=>e=.returned (.bool (digB c))∧w'=w:=by
 have hc:=c.toNat_lt
 by_cases h1:(c.toNat:Int)<48
 ·have hT:=Lib.hid (show digB c=false by simp only[digB];simp;omega)
  go_enter Tryz.func168,Tryz.ntmps168
  go_wp2
  go_ret
  exact⟨ret_bool hT.out.symm,rfl⟩
 have g1:(48:Int)≤(c.toNat:Int):=by omega
 by_cases h2:(57:Int)<(c.toNat:Int)
 ·have g2:decide ((c.toNat:Int)≤57)=false:=decide_eq_false (by omega)
  have hT:=Lib.hid (show digB c=false by simp only[digB];simp;omega)
  go_enter Tryz.func168,Tryz.ntmps168
  go_wp2
  go_ret
  exact⟨ret_bool hT.out.symm,rfl⟩
 ·have hT:=Lib.hid (show digB c=true by simp only[digB];simp;omega)
  have g2:(c.toNat:Int)≤57:=by omega
  go_enter Tryz.func168,Tryz.ntmps168
  go_wp2
  go_ret
  exact⟨ret_bool hT.out.symm,rfl⟩
theorem within_in {n lo hi:Int} (h:outB n lo hi=false) (w:World):Calls Tryz.prog 89 #[.int .i64 n,.int .i64 lo,.int .i64 hi] w fun e w'=>e=.returned (.bool true)∧w'=w:=by
 simp[outB] at h
 have h1:lo≤n:=by omega
 have h2:n≤hi:=by omega
 clear h
 have t1:decide (lo≤n)=true:=decide_eq_true h1
 have t2:decide (n≤hi)=true:=decide_eq_true h2
 go_enter Tryz.func89,Tryz.ntmps89
 go_wp2
 go_ret
 exact⟨rfl,rfl⟩
theorem within_out {n lo hi:Int} (h:outB n lo hi=true) (w:World):Calls Tryz.prog 89 #[.int .i64 n,.int .i64 lo,.int .i64 hi] w fun e w'=>e=.returned (.bool false)∧w'=w:=by
 simp[outB] at h
 by_cases h1:n<lo
 ·have t1:decide (lo≤n)=false:=decide_eq_false (by omega)
  clear h
  go_enter Tryz.func89,Tryz.ntmps89
  go_wp2
  go_ret
  exact⟨rfl,rfl⟩
 ·have t1:decide (lo≤n)=true:=decide_eq_true (by omega)
  have t2:decide (n≤hi)=false:=decide_eq_false (by omega)
  clear h
  go_enter Tryz.func89,Tryz.ntmps89
  go_wp2
  go_ret
  exact⟨rfl,rfl⟩
theorem all_snoc {α:Type} (p:α→Bool) (l:List α) (k:Nat) (hk:k<l.length):(l.take (k+1)).all p=((l.take k).all p&&p l[k]):=by
 rw[List.take_succ_eq_append_getElem hk,List.all_append];simp
set_option maxHeartbeats 2000000 in
theorem rWord_any (s:ByteArray) (w:World) (hs:s.size≤9223372036854775807):
 Calls Tryz.prog 125 #[.string s] w fun e w'=>e=.returned (.bool (nameB s))∧w'=w:=by
 have C1:=Lib.hid (fun(c:UInt8) W=>lower_any c W)
 have C2:=Lib.hid (fun(c:UInt8) W=>digit_any c W)
 by_cases h0:s.size<1
 ·have hT:=Lib.hid (show nameB s=false by simp[nameB];omega)
  go_enter Tryz.func125,Tryz.ntmps125
  go_wp2_with fail
  go_ret
  exact⟨ret_bool hT.out.symm,rfl⟩
 have h0':0<s.size:=by omega
 by_cases h1:16<s.size
 ·have hT:=Lib.hid (show nameB s=false by simp[nameB];omega)
  go_enter Tryz.func125,Tryz.ntmps125
  go_wp2_with fail
  go_ret
  exact⟨ret_bool hT.out.symm,rfl⟩
 have hd:s.data.toList.getD 0 0=s[0]:=by
  rw[List.getD_eq_getElem?_getD,List.getElem?_eq_getElem (by simpa using h0')]
  rfl
 have hE:=Lib.hid (show nameB s=(lowB s[0]&&s.data.toList.all wordB) by
  simp only[nameB,hd]
  rw[show decide (1≤s.size)=true by simp;omega,show decide (s.size≤16)=true by simp;omega]
  simp)
 clear hd
 have D1:=Lib.hid (C1.out s[0] w)
 cases hl:lowB s[0] with
 |false=>
  have hT:=Lib.hid (show nameB s=false by rw[hE.out,hl];rfl)
  rw[hl] at D1
  clear hl
  go_enter Tryz.func125,Tryz.ntmps125
  go_wp2_with fail
  refine D1.out.mono ?_
  rintro e w' ⟨rfl,rfl⟩
  go_wp2_with fail
  go_ret
  exact⟨ret_bool hT.out.symm,rfl⟩
 |true=>
 replace hE:=Lib.hid (show nameB s=s.data.toList.all wordB by rw[hE.out,hl];rfl)
 rw[hl] at D1
 clear hl
 have hsz:s.data.toList.length=s.size:=Array.length_toList
 go_enter Tryz.func125,Tryz.ntmps125
 go_wp2_with fail
 refine D1.out.mono ?_
 rintro e w' ⟨rfl,rfl⟩
 go_wp2_with fail
 go_loopw [3] (fun i wr=>wr=w'∧∃k:Nat,k≤s.size∧i=.int .i64 k∧Hid ((s.data.toList.take k).all wordB=true)) (fun i _=>s.size-(intOf i).toNat)
 case atStart=>exact⟨rfl,0,by omega,rfl,Lib.hid rfl⟩
 case round=>
  obtain⟨rfl,k,hk,rfl,ha⟩:=hrel
  by_cases hlt:k<s.size
  ·have hsn:=all_snoc wordB s.data.toList k (by omega)
   have hge:s.data.toList[k]'(by omega)=s[k]:=rfl
   rw[hge] at hsn
   have E1:=Lib.hid (C1.out s[k] wr)
   have E2:=Lib.hid (C2.out s[k] wr)
   have hwd:wordB s[k]=(lowB s[k]||digB s[k]||decide (s[k].toNat=45)):=rfl
   have hk0:(0:Int)≤(k:Int):=by omega
   have hk1:(k:Int)<(s.size:Int):=by omega
   cases hl:lowB s[k] with
   |true=>
    have hN:=Lib.hid (show(s.data.toList.take (k+1)).all wordB=true by rw[hsn,ha.out,hwd,hl];rfl)
    rw[hl] at E1
    clear hl hwd hsn hge
    go_wp2_with fail
    refine E1.out.mono ?_
    rintro e w' ⟨rfl,rfl⟩
    go_wp2_with fail
    go_roundw
    case rel=>exact⟨trivial,k+1,by omega,by go_num,hN⟩
    case measure=>simp[intOf];omega
   |false=>
    rw[hl] at E1
    cases hg:digB s[k] with
    |true=>
     have hN:=Lib.hid (show(s.data.toList.take (k+1)).all wordB=true by rw[hsn,ha.out,hwd,hl,hg];rfl)
     rw[hg] at E2
     clear hl hwd hsn hge hg
     go_wp2_with fail
     refine E1.out.mono ?_
     rintro e w' ⟨rfl,rfl⟩
     go_wp2_with fail
     refine E2.out.mono ?_
     rintro e w' ⟨rfl,rfl⟩
     go_wp2_with fail
     go_roundw
     case rel=>exact⟨trivial,k+1,by omega,by go_num,hN⟩
     case measure=>simp[intOf];omega
    |false=>
     rw[hg] at E2
     by_cases hm:s[k].toNat=45
     ·have hN:=Lib.hid (show(s.data.toList.take (k+1)).all wordB=true by rw[hsn,ha.out,hwd,hl,hg];simp[hm])
      have t1:((s[k].toNat:Int) !=45)=false:=by simp[hm]
      clear hl hwd hsn hge hg hm
      go_wp2_with fail
      refine E1.out.mono ?_
      rintro e w' ⟨rfl,rfl⟩
      go_wp2_with fail
      refine E2.out.mono ?_
      rintro e w' ⟨rfl,rfl⟩
      go_wp2_with fail
      go_roundw
      case rel=>exact⟨trivial,k+1,by omega,by go_num,hN⟩
      case measure=>simp[intOf];omega
     ·have hT:=Lib.hid (show nameB s=false by
       rw[hE.out]
       have h2:wordB s[k]=false:=by rw[hwd,hl,hg];simp[hm]
       have h3:¬s.data.toList.all wordB=true:=fun h=>by
        have:=List.all_eq_true.1 h _ (List.getElem_mem (show k<s.data.toList.length by omega))
        rw[hge,h2] at this;cases this
       simpa using h3)
      have t1:((s[k].toNat:Int) !=45)=true:=by simp;omega
      clear hl hwd hsn hge hg hm
      go_wp2_with fail
      refine E1.out.mono ?_
      rintro e w' ⟨rfl,rfl⟩
      go_wp2_with fail
      refine E2.out.mono ?_
      rintro e w' ⟨rfl,rfl⟩
      go_wp2_with fail
      go_ret
      exact⟨ret_bool hT.out.symm,rfl⟩
  ·have hT:=Lib.hid (show nameB s=true by rw[hE.out,←ha.out,List.take_of_length_le (by omega)])
   have hk1:(s.size:Int)≤(k:Int):=by omega
   go_wp2_with fail
   go_ret
   exact⟨ret_bool hT.out.symm,rfl⟩
end Go.Proofs.YtlckmjiioohcmaaGreatDoor
namespace Go.Proofs.YtlckmjiioohcmaaGreatDoor
open Go.RowKit
theorem Sl.capB {α:Type} {R:Rep α} {w:World} {A:Option Addr} {n c:Nat} {xs:List α} (h:Sl R w (.slice A n c) xs):n=xs.length∧n≤c∧c≤9223372036854775807:=by
 obtain⟨A',c',he,h1,h2,_⟩:=h
 injection he with e1 e2 e3
 omega
theorem Cells.newQ (w:World) (cs:List Value) (t:TypeId) (g:Nat) (hg:g=w.heap.size):Cells (w.alloc (.cells cs.toArray t)) g cs:=hg▸Cells.new w cs t
set_option maxHeartbeats 4000000 in
theorem rsection_any {w:World} {V:Option Addr} {vc:Nat} {sh ttl ses:Int} {secs:List Sec} (hv:Sl secR w (.slice V secs.length vc) secs) {i:Nat} (hi:i<secs.length):
 Calls Tryz.prog 90 #[.agg #[.int .i64 sh,.int .i64 ttl,.int .i64 ses,.slice V secs.length vc],.int .i64 (i:Int)] w fun e w'=>e=.returned (.int .i64 (secE secs[i] (secs.take i)))∧Below w.heap.size w w':=by
 have HV:=Lib.hid hv
 obtain⟨b,off,A',c',rfl,hbl,e0,e1,e2,hin,_,hnm⟩:=hv.atS hi
 have hcv:=HV.out.capB
 have hi0:(0:Int)≤(i:Int):=by omega
 have hi1:(i:Int)<(secs.length:Int):=by omega
 have HIN:=Lib.hid hin
 have hcap:=hin.capB
 clear hv hin
 have hE:=Lib.hid (show secE secs[i] (secs.take i)=if nameB secs[i].name=false then 6 else if((secs.take i).any fun y=>y.name.toList==secs[i].name.toList) then 8 else if secs[i].rows.length=0 then 6 else if 16<secs[i].rows.length then 3
  else if secs[i].rows.any (fun n=>outB n 1 64) then 7 else if outB secs[i].queue 0 64 then 7 else 0 from rfl)
 generalize secE secs[i] (secs.take i)=E at hE⊢
 generalize secs[i]=s at e0 e1 e2 HIN hE hnm hcap
 obtain⟨nm,rows,queue⟩:=s
 dsimp only at e0 e1 e2 HIN hE hnm hcap
 have CB:=Lib.hid (fun W=>rWord_any nm W hnm)
 go_enter Tryz.func90,Tryz.ntmps90
 go_wp2_with fail
 clear e0 e1 e2
 obtain⟨q,hq⟩:∃q,w.heap.size=q:=⟨_,rfl⟩
 have hq1:(w.alloc (.cells #[.int .i64 sh,.int .i64 ttl,.int .i64 ses,.slice (some ⟨b,off,none⟩) secs.length vc] 24)).heap.size=q+1:=by simp[hq]
 rw[hq]
 refine(CB.out _).mono ?_
 rintro e w' ⟨rfl,rfl⟩
 dsimp only
 refine at_world (fun W=>Below w.heap.size w W∧Cells W q [.int .i64 sh,.int .i64 ttl,.int .i64 ses,.slice (some ⟨b,off,none⟩) secs.length vc]∧Cells W (q+1) [.string nm,.slice A' rows.length c',.int .i64 queue]) ⟨bal (ba _ _),(Cells.newQ _ _ _ _ hq.symm).alloc _,Cells.newQ _ _ 76 _ hq1.symm⟩ fun w' ⟨hb,k0,k1⟩=> ?_
 have HB:=Lib.hid hb
 have K0:=Lib.hid k0
 have K1:=Lib.hid k1
 clear hq1 hb k0 k1 hbl
 cases hn:nameB nm with
 |false=>
  obtain rfl:E=6:=by rw[hE.out,hn];rfl
  go_wp2_with fail
  go_ret
  exact⟨rfl,HB.out⟩
 |true=>
 replace hE:=Lib.hid (show E=if((secs.take i).any fun y=>y.name.toList==nm.toList) then 8 else if rows.length=0 then 6 else if 16<rows.length then 3 else if rows.any (fun n=>outB n 1 64) then 7 else if outB queue 0 64 then 7 else 0 by rw[hE.out,hn];rfl)
 clear hn CB
 go_wp2_with fail
 go_loopw [6] (fun v wr=> ∃k:Nat,k≤i∧v=.int .i64 k∧Hid (Below w'.heap.size w' wr)∧Hid (((secs.take k).any fun y=>y.name.toList==nm.toList)=false)) (fun v _=>i-(intOf v).toNat)
 case atStart=>exact⟨0,by omega,rfl,Lib.hid (Below.refl _ _),Lib.hid rfl⟩
 case round=>
  obtain⟨k,hk,rfl,D,hno⟩:=hrel
  have k0:=K0.out.later D.out
  have k1:=K1.out.later D.out
  have c3:=k0.c 3 _ rfl
  have d0:=k1.c 0 _ rfl
  have d1:=k1.c 1 _ rfl
  have y0:=k0.lt
  have y1:=k1.lt
  clear k0 k1
  by_cases hlt:k<i
  ·obtain⟨b2,off2,A2,c2,he2,hbl2,e0,e1,e2,_,_,_⟩:=(HV.out.up (HB.out.trans (D.out.mono HB.out.size))).atS (show k<secs.length by omega)
   injection he2 with he2
   injection he2 with he2 he3
   subst he2 he3
   have hk0:(0:Int)≤(k:Int):=by omega
   have hk1:(k:Int)<(i:Int):=by omega
   have hk2:(k:Int)<(secs.length:Int):=by omega
   have hsn:=Lib.hid (show((secs.take (k+1)).any fun y=>y.name.toList==nm.toList)=(((secs.take k).any fun y=>y.name.toList==nm.toList)||(secs[k].name.toList==nm.toList)) by
    rw[List.take_succ_eq_append_getElem (by omega),List.any_append];simp)
   have hmem:=Lib.hid (show secs[k]∈secs.take i from List.mem_iff_getElem?.2 ⟨k,by rw[List.getElem?_take,if_pos hlt,List.getElem?_eq_getElem (by omega)]⟩)
   cases ht:(secs[k].name.toList==nm.toList) with
   |true=>
    obtain rfl:E=8:=by rw[hE.out,if_pos (List.any_eq_true.2 ⟨_,hmem.out,ht⟩)]
    go_wp2_with fail
    go_quiet (fail)
    go_wp2_with fail
    go_ret
    exact⟨rfl,(HB.out.trans (D.out.mono HB.out.size)).trans (bdN (Below.refl _ _) _)⟩
   |false=>
    have hnx:=Lib.hid (show((secs.take (k+1)).any fun y=>y.name.toList==nm.toList)=false by rw[hsn.out,hno.out,ht];rfl)
    go_wp2_with fail
    go_quiet (fail)
    go_wp2_with fail
    go_roundw
    case rel=>exact⟨k+1,by omega,by go_num,Lib.hid (D.out.trans (bdN (Below.refl _ _) _)),hnx⟩
    case measure=>simp[intOf];omega
  obtain rfl:k=i:=by omega
  replace hE:=Lib.hid (show E=if rows.length=0 then 6 else if 16<rows.length then 3 else if rows.any (fun n=>outB n 1 64) then 7 else if outB queue 0 64 then 7 else 0 by rw[hE.out,hno.out];rfl)
  clear hno hlt
  have D':=Lib.hid (HB.out.trans (D.out.mono HB.out.size))
  by_cases h0:rows.length=0
  ·have t0:((rows.length:Int)==0)=true:=by simp[h0]
   obtain rfl:E=6:=by rw[hE.out,if_pos h0]
   clear h0
   go_wp2_with fail
   go_ret
   exact⟨rfl,D'.out⟩
  have t0:((rows.length:Int)==0)=false:=by simpa using h0
  by_cases h1:16<rows.length
  ·have t1:decide ((16:Int)<(rows.length:Int))=true:=by simp;omega
   obtain rfl:E=3:=by rw[hE.out,if_neg h0,if_pos h1]
   clear h0 h1
   go_wp2_with fail
   go_ret
   exact⟨rfl,D'.out⟩
  have t1:decide ((16:Int)<(rows.length:Int))=false:=by simp;omega
  replace hE:=Lib.hid (show E=if rows.any (fun n=>outB n 1 64) then 7 else if outB queue 0 64 then 7 else 0 by rw[hE.out,if_neg h0,if_neg h1])
  have hlen:rows.length≤16:=by omega
  clear h0 h1
  go_wp2_with fail
  clear c3 d0 d1 y0 y1 t0 t1
  have K1':=Lib.hid (K1.out.later D.out)
  go_loopw [7] (fun v wi=>wi=wr∧∃j:Nat,j≤rows.length∧v=.int .i64 j∧Hid ((rows.take j).any (fun n=>outB n 1 64)=false)) (fun v _=>rows.length-(intOf v).toNat)
  case atStart=>exact⟨rfl,0,by omega,rfl,Lib.hid rfl⟩
  case round=>
   obtain⟨rfl,j,hj,rfl,hno⟩:=hrel
   have d1:=K1'.out.c 1 _ rfl
   have d2:=K1'.out.c 2 _ rfl
   have y1:=K1'.out.lt
   by_cases hlt:j<rows.length
   ·obtain⟨b2,o2,rfl,hb2,e2,_⟩:=(HIN.out.up D'.out).atI hlt
    have hj0:(0:Int)≤(j:Int):=by omega
    have hj1:(j:Int)<(rows.length:Int):=by omega
    have hsn:=Lib.hid (show(rows.take (j+1)).any (fun n=>outB n 1 64)=((rows.take j).any (fun n=>outB n 1 64)||outB rows[j] 1 64) by
     rw[List.take_succ_eq_append_getElem (by omega),List.any_append];simp)
    cases ht:outB rows[j] 1 64 with
    |true=>
     obtain rfl:E=7:=by rw[hE.out,if_pos (List.any_eq_true.2 ⟨_,List.getElem_mem hlt,ht⟩)]
     have CW:=Lib.hid (fun W=>within_out ht W)
     go_wp2_with fail
     refine(CW.out _).mono ?_
     rintro e w3 ⟨rfl,rfl⟩
     go_wp2_with fail
     go_ret
     exact⟨rfl,D'.out⟩
    |false=>
     have hnx:=Lib.hid (show(rows.take (j+1)).any (fun n=>outB n 1 64)=false by rw[hsn.out,hno.out,ht];rfl)
     have CW:=Lib.hid (fun W=>within_in ht W)
     go_wp2_with fail
     refine(CW.out _).mono ?_
     rintro e w3 ⟨rfl,rfl⟩
     go_wp2_with fail
     go_roundw
     case rel=>exact⟨trivial,j+1,by omega,by go_num,hnx⟩
     case measure=>simp[intOf];omega
   obtain rfl:j=rows.length:=by omega
   have hno':=hno.out
   rw[List.take_length] at hno'
   cases ht:outB queue 0 64 with
   |true=>
    obtain rfl:E=7:=by rw[hE.out,hno',ht];rfl
    have CW:=Lib.hid (fun W=>within_out ht W)
    clear hno hno'
    go_wp2_with fail
    refine(CW.out _).mono ?_
    rintro e w3 ⟨rfl,rfl⟩
    go_wp2_with fail
    go_ret
    exact⟨rfl,D'.out⟩
   |false=>
    obtain rfl:E=0:=by rw[hE.out,hno',ht];rfl
    have CW:=Lib.hid (fun W=>within_in ht W)
    clear hno hno'
    go_wp2_with fail
    refine(CW.out _).mono ?_
    rintro e w3 ⟨rfl,rfl⟩
    go_wp2_with fail
    go_ret
    exact⟨rfl,D'.out⟩
end Go.Proofs.YtlckmjiioohcmaaGreatDoor
namespace Go.Proofs.YtlckmjiioohcmaaGreatDoor
open Go.RowKit
def plR:Rep Pl where
 size:=3
 is _ cs p:=cs=[.int .i64 p.sec,.int .i64 p.row,.int .i64 p.seat]∧Bd p.sec∧Bd p.row∧Bd p.seat
 len h:=by rw[h.1];rfl
 one h:=by rw[h.1];simp[Value.oneCell']
 up _ h:=h
theorem plR_flat:plR.flat:=fun _ _ _ _ h=>h
theorem infoPl:(Tryz.prog.info? 157).map (fun i=>(i.zero,i.size,i.bytes))=some (some (.agg #[.int .i64 0,.int .i64 0,.int .i64 0]),3,24):=by kernel_rfl
def plRow (i k:Nat) (m:Int):List Pl:=(List.range m.toNat).map fun n:Nat=>⟨(i:Int),(k:Int),(n:Int)⟩
def plSec (i:Nat):List Int→Nat→List Pl
 |[],_=>[]
 |r::l,k=>plRow i k r++plSec i l (k+1)
def plAll:List Sec→Nat→List Pl
 |[],_=>[]
 |s::l,i=>plSec i s.rows 0++plAll l (i+1)
theorem plSec_len (i:Nat):∀(l:List Int) (k:Nat),(∀n,n∈l→1≤n∧n≤64)→((plSec i l k).length:Int)=sum l
 |[],_,_=>rfl
 |r::l,k,h=>by
  have h1:=h r (by simp)
  have h2:=plSec_len i l (k+1) fun n hn=>h n (by simp[hn])
  simp only[plSec,plRow,List.length_append,List.length_map,List.length_range,sum]
  omega
theorem plAll_len:∀(l:List Sec) (i:Nat),(∀s,s∈l→∀n,n∈s.rows→1≤n∧n≤64)→((plAll l i).length:Int)=sum (l.flatMap (·.rows))
 |[],_,_=>rfl
 |s::l,i,h=>by
  have h1:=plSec_len i s.rows 0 (h s (by simp))
  have h2:=plAll_len l (i+1) fun t ht=>h t (by simp[ht])
  simp only[plAll,List.length_append,List.flatMap_cons,sum_append]
  omega
theorem secsOk_rows {secs:List Sec} (hok:SecsOk secs):∀s,s∈secs→s.rows.length≤16∧∀n,n∈s.rows→1≤n∧n≤64:=by
 intro s hs
 obtain⟨j,hj,rfl⟩:=List.getElem_of_mem hs
 have:=secE_ok (hok.2 j hj)
 exact⟨this.1,this.2.1⟩
theorem plAll_bd {secs:List Sec} (hok:SecsOk secs):((plAll secs 0).length:Int)=sum (secs.flatMap (·.rows))∧(plAll secs 0).length≤8192:=by
 have h1:=plAll_len secs 0 fun s hs=>(secsOk_rows hok s hs).2
 have h2:=upTo_bd (xs:=secs) (k:=secs.length) (Nat.le_refl _) fun j hj _=>hok.2 j hj
 rw[upTo,List.take_length] at h2
 have:=hok.1
 exact⟨h1,by omega⟩
theorem plRow_drop (i k:Nat) (m:Int) (n:Nat) (h:(n:Int)<m):(plRow i k m).drop n=⟨(i:Int),(k:Int),(n:Int)⟩::(plRow i k m).drop (n+1):=by
 have hn:n<(plRow i k m).length:=by simp[plRow];omega
 rw[List.drop_eq_getElem_cons hn]
 simp[plRow]
def PlI (w wr:World) (q:Nat) (cs:List Value) (v:Value) (acc rest tot:List Pl):Prop:=Below w.heap.size w wr∧Cells wr q cs∧Own plR 157 (q+1) wr v acc∧acc++rest=tot
theorem PlI.re {w wr:World} {q:Nat} {cs:List Value} {v:Value} {acc rest rest' tot:List Pl} (h:PlI w wr q cs v acc rest tot) (e:rest=rest'):PlI w wr q cs v acc rest' tot:=e▸h
theorem sl_pl (w:World) (g:Nat) (p:Pl) (t:TypeId) (hg:g=w.heap.size) (h1:Bd p.sec) (h2:Bd p.row) (h3:Bd p.seat):Sl plR (w.alloc (.cells #[.int .i64 p.sec,.int .i64 p.row,.int .i64 p.seat] t)) (.slice (some ⟨g,0,none⟩) 1 1) [p]:=by
 subst hg
 exact Own.sl (Own.lit (R:=plR) (e:=t) (n:=1) (B:=0) (xs:=[p]) (cells:=[.int .i64 p.sec,.int .i64 p.row,.int .i64 p.seat]) rfl (by omega) (Rep.many_one ⟨rfl,h1,h2,h3⟩) rfl (by omega))
def PlacesPost (w:World) (secs:List Sec) (e:Ending) (w':World):Prop:=∃A c,e=.returned (.slice A (plAll secs 0).length c)∧Own plR 157 w.heap.size w' (.slice A (plAll secs 0).length c) (plAll secs 0)∧Below w.heap.size w w'
set_option maxHeartbeats 4000000 in
theorem rplaces_any {w:World} {V:Option Addr} {vc:Nat} {sh ttl ses:Int} {secs:List Sec} (hv:Sl secR w (.slice V secs.length vc) secs) (hok:SecsOk secs):
 Calls Tryz.prog 56 #[.agg #[.int .i64 sh,.int .i64 ttl,.int .i64 ses,.slice V secs.length vc]] w (PlacesPost w secs):=by
 have HV:=Lib.hid hv
 have hlen:=hok.1
 have HOK:=Lib.hid hok
 have hbd:=plAll_bd hok
 obtain⟨tot,htot⟩:∃tot,plAll secs 0=tot:=⟨_,rfl⟩
 unfold PlacesPost
 rw[htot] at hbd⊢
 have HT:=Lib.hid htot
 have hbd2:=hbd.2
 clear hv hok htot hbd
 go_enter Tryz.func56,Tryz.ntmps56
 go_wp2_with fail
 obtain⟨q,hq⟩:∃q,w.heap.size=q:=⟨_,rfl⟩
 obtain⟨cs,hcs⟩:∃cs:List Value,cs=[.int .i64 sh,.int .i64 ttl,.int .i64 ses,.slice V secs.length vc]:=⟨_,rfl⟩
 have I0:=Lib.hid (show PlI w (w.alloc (.cells #[.int .i64 sh,.int .i64 ttl,.int .i64 ses,.slice V secs.length vc] 24)) q cs (.slice none 0 0) [] (plAll (secs.drop 0) 0) tot from
  ⟨ba _ _,hcs▸Cells.newQ _ _ _ _ hq.symm,Own.nil _ _ _ _,by rw[List.drop_zero];exact HT.out⟩)
 rw[hq]
 have HQ:=Lib.hid hq
 have HCS:=Lib.hid hcs
 clear hq hcs
 go_loopw [3,4] (fun v iv wr=> ∃i:Nat,i≤secs.length∧iv=.int .i64 i∧∃acc A c,v=.slice A acc.length c∧Hid (PlI w wr q cs v acc (plAll (secs.drop i) i) tot)) (fun _ iv _=>secs.length-(intOf iv).toNat)
 case atStart=>exact⟨0,by omega,rfl,[],none,0,rfl,I0⟩
 case round=>
  obtain⟨i,hi,rfl,acc,A,c,rfl,I⟩:=hrel
  have k0:=I.out.2.1
  rw[HCS.out] at k0
  have c3:=k0.c 3 _ rfl
  have y0:=k0.lt
  clear k0
  by_cases hlt:i<secs.length
  ·obtain⟨b,off,A',c',hA,hbl,e0,e1,e2,hin,_,_⟩:=(HV.out.up I.out.1).atS hlt
   subst hA
   have hi0:(0:Int)≤(i:Int):=by omega
   have hi1:(i:Int)<(secs.length:Int):=by omega
   have hdr:=Lib.hid (show plAll (secs.drop i) i=plSec i (secs[i].rows.drop 0) 0++plAll (secs.drop (i+1)) (i+1) by rw[List.drop_eq_getElem_cons hlt,List.drop_zero];rfl)
   have hrw:=Lib.hid (secsOk_rows HOK.out _ (List.getElem_mem hlt))
   have hrl:=hrw.out.1
   have hcap:=hin.capB
   generalize hrows:secs[i].rows=rows at e1 hin hdr hrw hrl hcap
   have HR:=Lib.hid hrows
   clear hrows
   have I1:=Lib.hid (I.out.re hdr.out)
   clear hin e0 e2 hdr
   go_wp2_with fail
   clear c3 e1 I
   go_loopw [3,5] (fun v kv wi=> ∃k:Nat,k≤rows.length∧kv=.int .i64 k∧∃acc A c,v=.slice A acc.length c∧Hid (PlI w wi q cs v acc (plSec i (rows.drop k) k++plAll (secs.drop (i+1)) (i+1)) tot)) (fun _ kv _=>rows.length-(intOf kv).toNat)
   case atStart=>exact⟨0,by omega,rfl,acc,A,c,rfl,I1⟩
   case round=>
    obtain⟨k,hk,rfl,acc,A,c,rfl,I⟩:=hrel
    have k0:=I.out.2.1
    rw[HCS.out] at k0
    have c3:=k0.c 3 _ rfl
    have y0:=k0.lt
    clear k0
    obtain⟨b3,off3,A3,c3',hA3,hbl3,_,e1,_,hin,_,_⟩:=(HV.out.up I.out.1).atS hlt
    injection hA3 with hA3
    injection hA3 with hA3 hA4
    subst hA3 hA4
    rw[HR.out] at e1 hin
    by_cases hkt:k<rows.length
    ·obtain⟨b2,o2,rfl,hb2,e3,_⟩:=hin.atI hkt
     have hk0:(0:Int)≤(k:Int):=by omega
     have hk1:(k:Int)<(rows.length:Int):=by omega
     have hm:=hrw.out.2 _ (List.getElem_mem hkt)
     have hdr:=Lib.hid (show plSec i (rows.drop k) k++plAll (secs.drop (i+1)) (i+1)=(plRow i k rows[k]).drop 0++(plSec i (rows.drop (k+1)) (k+1)++plAll (secs.drop (i+1)) (i+1)) by
      rw[List.drop_eq_getElem_cons hkt,List.drop_zero,←List.append_assoc];rfl)
     generalize hmm:rows[k]=m at e3 hm hdr
     have HM:=Lib.hid hmm
     clear hmm hin
     have I1:=Lib.hid (I.out.re hdr.out)
     clear hdr
     go_wp2_with fail
     clear c3 e1 e3 I
     go_loopw [3,6] (fun v nv wj=> ∃n:Nat,(n:Int)≤m∧nv=.int .i64 n∧∃acc A c,v=.slice A acc.length c∧Hid (PlI w wj q cs v acc ((plRow i k m).drop n++(plSec i (rows.drop (k+1)) (k+1)++plAll (secs.drop (i+1)) (i+1))) tot)) (fun _ nv _=>m.toNat-(intOf nv).toNat)
     case atStart=>exact⟨0,by omega,rfl,acc,A,c,rfl,I1⟩
     case round=>
      obtain⟨n,hn,rfl,acc,A,c,rfl,I⟩:=hrel
      have k0:=I.out.2.1
      rw[HCS.out] at k0
      have c3:=k0.c 3 _ rfl
      have y0:=k0.lt
      clear k0
      obtain⟨b3,off3,A3,c3',hA3,hbl3,_,e1,_,hin,_,_⟩:=(HV.out.up I.out.1).atS hlt
      injection hA3 with hA3
      injection hA3 with hA3 hA4
      subst hA3 hA4
      rw[HR.out] at e1 hin
      obtain⟨b4,o4,hA4,hb4,e3,_⟩:=hin.atI hkt
      subst hA4
      rw[HM.out] at e3
      clear hin
      by_cases hnt:(n:Int)<m
      ·have hI:=I.out
       rw[plRow_drop i k m n hnt] at hI
       have hlen:=congrArg List.length hI.2.2.2
       simp only[List.length_append,List.length_cons] at hlen
       have HI:=Lib.hid hI
       have hO:=Lib.hid hI.2.2.1
       clear hI I
       go_wp2_with (at_builtin;refine wpList_append_sl _ rfl (.tmp 38) (.tmp 43) 114 rfl plR (q+1) 157 _ 24 Tryz.underlying114 infoPl rfl (by decide) _ acc rfl (hO.out.up (ba _ _)) _ [⟨(i:Int),(k:Int),(n:Int)⟩] rfl (sl_pl _ _ ⟨(i:Int),(k:Int),(n:Int)⟩ _ rfl (by unfold Bd;simp;omega) (by unfold Bd;simp;omega) (by unfold Bd;simp;omega)) (by simp;omega) (by decide) (by simp;omega) (fun w' _ cs y h=>plR_flat _ _ _ _ h) ?_;intro v1 w5 hown1 hg1 hat1)
       obtain⟨A1,c1,rfl,_,_,ho1⟩:=hown1.form
       have HI1:=Lib.hid (show PlI w w5 q cs (.slice A1 (acc++[(⟨(i:Int),(k:Int),(n:Int)⟩:Pl)]).length c1) (acc++[⟨(i:Int),(k:Int),(n:Int)⟩]) ((plRow i k m).drop (n+1)++(plSec i (rows.drop (k+1)) (k+1)++plAll (secs.drop (i+1)) (i+1))) tot from by
        have hqq:=HQ.out
        refine⟨(bal HI.out.1).grown hg1 (by have:=HI.out.1.size;simp;omega) (fun j hj=> ?_),(HI.out.2.1.alloc _).grown hg1 (fun e=> ?_),ho1, ?_⟩
        ·have:=(hO.out.lt j hj).1;omega
        ·have:=(hO.out.lt q e).1;omega
        ·rw[List.append_assoc];exact HI.out.2.2.2)
       clear hown1 hg1 hat1 ho1
       go_roundw
       case rel=>exact⟨n+1,by omega,by go_num,acc++[⟨(i:Int),(k:Int),(n:Int)⟩],A1,c1,rfl,HI1⟩
       case measure=>simp[intOf];omega
      ·have I2:=Lib.hid (I.out.re (show(plRow i k m).drop n++(plSec i (rows.drop (k+1)) (k+1)++plAll (secs.drop (i+1)) (i+1))=plSec i (rows.drop (k+1)) (k+1)++plAll (secs.drop (i+1)) (i+1) by
        rw[List.drop_of_length_le (by simp[plRow];omega)];rfl))
       clear I
       go_wp2_with fail
       go_roundw
       case rel=>exact⟨k+1,by omega,by go_num,acc,A,c,rfl,I2⟩
       case measure=>simp[intOf];omega
    ·have I2:=Lib.hid (I.out.re (show plSec i (rows.drop k) k++plAll (secs.drop (i+1)) (i+1)=plAll (secs.drop (i+1)) (i+1) by
      rw[List.drop_of_length_le (by omega)];rfl))
     clear I
     go_wp2_with fail
     go_roundw
     case rel=>exact⟨i+1,by omega,by go_num,acc,A,c,rfl,I2⟩
     case measure=>simp[intOf];omega
  ·obtain rfl:i=secs.length:=by omega
   have hI:=I.out
   rw[List.drop_length] at hI
   have hacc:acc=tot:=by have:=hI.2.2.2;simpa[plAll] using this
   subst hacc
   have HI:=Lib.hid hI
   clear hI I
   go_wp2_with fail
   go_ret
   exact⟨_,_,rfl,(HI.out.2.2.1).mono (by have:=HQ.out;omega),HI.out.1⟩
set_option maxHeartbeats 4000000 in
theorem rcheck_any {w:World} {V:Option Addr} {vc:Nat} {x:Ve} (hv:Sl secR w (.slice V x.secs.length vc) x.secs):
 Calls Tryz.prog 55 #[.agg #[.int .i64 x.shards,.int .i64 x.ttl,.int .i64 x.session,.slice V x.secs.length vc]] w fun e w'=>e=.returned (.tuple #[.int .i64 (checkV x).1,.int .i64 (checkV x).2])∧Below w.heap.size w w':=by
 obtain⟨shards,ttl,session,secs⟩:=x
 dsimp only at hv⊢
 have hcap:=hv.capB
 have HV:=Lib.hid hv
 have hE:=Lib.hid (show checkV ⟨shards,ttl,session,secs⟩=if(outB shards 1 16||outB ttl 1 1000000000||outB session 1 1000000000)=true then(-1,7) else if secs.length=0 then(-1,6) else if 8<secs.length then(-1,3) else match secsE [] secs 0 with|some (i,e)=>((i:Int),e)|none=>if 4096<sum (secs.flatMap (·.rows)) then(-1,3) else(0,0) from rfl)
 generalize checkV ⟨shards,ttl,session,secs⟩=E at hE⊢
 clear hv
 cases hb1:outB shards 1 16 with
 |true=>
  obtain rfl:E=(-1,7):=by rw[hE.out,hb1];rfl
  have W1:=Lib.hid (fun W=>within_out hb1 W)
  clear hb1
  go_enter Tryz.func55,Tryz.ntmps55
  go_wp2_with fail
  refine(W1.out _).mono ?_
  rintro e w' ⟨rfl,rfl⟩
  go_wp2_with fail
  go_ret2
  exact⟨rfl,ba _ _⟩
 |false=>
 have W1:=Lib.hid (fun W=>within_in hb1 W)
 cases hb2:outB ttl 1 1000000000 with
 |true=>
  obtain rfl:E=(-1,7):=by rw[hE.out,hb1,hb2];rfl
  have W2:=Lib.hid (fun W=>within_out hb2 W)
  clear hb1 hb2
  go_enter Tryz.func55,Tryz.ntmps55
  go_wp2_with fail
  refine(W1.out _).mono ?_
  rintro e w' ⟨rfl,rfl⟩
  go_wp2_with fail
  refine(W2.out _).mono ?_
  rintro e w' ⟨rfl,rfl⟩
  go_wp2_with fail
  go_ret2
  exact⟨rfl,ba _ _⟩
 |false=>
 have W2:=Lib.hid (fun W=>within_in hb2 W)
 cases hb3:outB session 1 1000000000 with
 |true=>
  obtain rfl:E=(-1,7):=by rw[hE.out,hb1,hb2,hb3];rfl
  have W3:=Lib.hid (fun W=>within_out hb3 W)
  clear hb1 hb2 hb3
  go_enter Tryz.func55,Tryz.ntmps55
  go_wp2_with fail
  refine(W1.out _).mono ?_
  rintro e w' ⟨rfl,rfl⟩
  go_wp2_with fail
  refine(W2.out _).mono ?_
  rintro e w' ⟨rfl,rfl⟩
  go_wp2_with fail
  refine(W3.out _).mono ?_
  rintro e w' ⟨rfl,rfl⟩
  go_wp2_with fail
  go_ret2
  exact⟨rfl,ba _ _⟩
 |false=>
 have W3:=Lib.hid (fun W=>within_in hb3 W)
 replace hE:=Lib.hid (show E=if secs.length=0 then(-1,6) else if 8<secs.length then(-1,3) else match secsE [] secs 0 with|some (i,e)=>((i:Int),e)|none=>if 4096<sum (secs.flatMap (·.rows)) then(-1,3) else(0,0) by rw[hE.out,hb1,hb2,hb3];rfl)
 clear hb1 hb2 hb3
 obtain⟨cs,hcs⟩:∃cs:List Value,cs=[.int .i64 shards,.int .i64 ttl,.int .i64 session,.slice V secs.length vc]:=⟨_,rfl⟩
 have HCS:=Lib.hid hcs
 have K0:=Lib.hid (show Cells (w.alloc (.cells #[.int .i64 shards,.int .i64 ttl,.int .i64 session,.slice V secs.length vc] 24)) w.heap.size cs from hcs▸Cells.new _ _ _)
 have HB0:=Lib.hid (ba w (.cells #[.int .i64 shards,.int .i64 ttl,.int .i64 session,.slice V secs.length vc] 24))
 clear hcs
 go_enter Tryz.func55,Tryz.ntmps55
 go_wp2_with fail
 refine(W1.out _).mono ?_
 rintro e w' ⟨rfl,rfl⟩
 go_wp2_with fail
 refine(W2.out _).mono ?_
 rintro e w' ⟨rfl,rfl⟩
 go_wp2_with fail
 refine(W3.out _).mono ?_
 rintro e w' ⟨rfl,rfl⟩
 clear W1 W2 W3
 refine at_world (fun W=>Below w.heap.size w W∧Cells W w.heap.size cs) ⟨HB0.out,K0.out⟩ fun w1 ⟨hb,k0⟩=> ?_
 have HB:=Lib.hid hb
 have K1:=Lib.hid k0
 rw[HCS.out] at k0
 have c0:=k0.c 0 _ rfl
 have c1:=k0.c 1 _ rfl
 have c2:=k0.c 2 _ rfl
 have c3:=k0.c 3 _ rfl
 have y0:=k0.lt
 clear hb k0 HB0 K0
 by_cases g1:secs.length=0
 ·have g1':((secs.length:Int)==0)=true:=by simp[g1]
  obtain rfl:E=(-1,6):=by rw[hE.out,if_pos g1]
  clear g1
  go_wp2_with fail
  go_ret2
  exact⟨rfl,HB.out⟩
 have g1':((secs.length:Int)==0)=false:=by simpa using g1
 by_cases g2:8<secs.length
 ·have g2':decide (8<(secs.length:Int))=true:=by simp;omega
  obtain rfl:E=(-1,3):=by rw[hE.out,if_neg g1,if_pos g2]
  clear g1 g2
  go_wp2_with fail
  go_ret2
  exact⟨rfl,HB.out⟩
 have g2':decide (8<(secs.length:Int))=false:=by simp;omega
 replace hE:=Lib.hid (show E=match secsE [] secs 0 with|some (i,e)=>((i:Int),e)|none=>if 4096<sum (secs.flatMap (·.rows)) then(-1,3) else(0,0) by rw[hE.out,if_neg g1,if_neg g2])
 have hlen:secs.length≤8:=by omega
 clear g1 g2
 go_wp2_with fail
 clear c0 c1 c2 c3 y0 g1' g2'
 go_loopw [4] (fun v wr=> ∃k:Nat,k≤secs.length∧v=.int .i64 k∧Hid (Below w1.heap.size w1 wr)∧Hid (∀j,(hj:j<secs.length)→j<k→secE secs[j] (secs.take j)=0)) (fun v _=>secs.length-(intOf v).toNat)
 case atStart=>exact⟨0,by omega,rfl,Lib.hid (Below.refl _ _),Lib.hid fun j _ h=>by omega⟩
 case round=>
  obtain⟨k,hk,rfl,D,hno⟩:=hrel
  have D':=Lib.hid (HB.out.trans (D.out.mono HB.out.size))
  have k0:=K1.out.later D.out
  rw[HCS.out] at k0
  have c0:=k0.c 0 _ rfl
  have c1:=k0.c 1 _ rfl
  have c2:=k0.c 2 _ rfl
  have c3:=k0.c 3 _ rfl
  have y0:=k0.lt
  clear k0
  by_cases hlt:k<secs.length
  ·have hk0:(0:Int)≤(k:Int):=by omega
   have hk1:(k:Int)<(secs.length:Int):=by omega
   have CS:=Lib.hid (rsection_any (sh:=shards) (ttl:=ttl) (ses:=session) (HV.out.up D'.out) hlt)
   have hre:=Lib.hid (show secE secs[k] (secs.take k)≠0→E=((k:Int),secE secs[k] (secs.take k)) from fun h=>by
    rw[hE.out,secsE_some hlt (fun j hj=>by simpa using hno.out j (by omega) hj) (by simpa using h)];simp)
   have hnx:=Lib.hid (show secE secs[k] (secs.take k)=0→∀j,(hj:j<secs.length)→j<k+1→secE secs[j] (secs.take j)=0 from fun h j hj hj2=>by
    by_cases e:j=k
    ·subst e;exact h
    ·exact hno.out j hj (by omega))
   generalize secE secs[k] (secs.take k)=ee at CS hre hnx
   go_wp2_with fail
   refine CS.out.mono ?_
   rintro e w2 ⟨rfl,hb2⟩
   have D2:=Lib.hid (D.out.trans (hb2.mono D.out.size))
   clear hb2 CS
   by_cases he:ee=0
   ·subst he
    clear c0 c1 c2 c3 y0
    go_wp2_with fail
    go_roundw
    case rel=>exact⟨k+1,by omega,by go_num,D2,Lib.hid (hnx.out trivial)⟩
    case measure=>simp[intOf];omega
   ·have t0:(ee !=0)=true:=by simpa using he
    obtain rfl:=hre.out he
    go_wp2_with fail
    go_ret2
    exact⟨rfl,HB.out.trans (D2.out.mono HB.out.size)⟩
  ·obtain rfl:k=secs.length:=by omega
   have hsok:SecsOk secs:=⟨hlen,fun j hj=>hno.out j hj hj⟩
   have hEn:=Lib.hid (show E=if 4096<sum (secs.flatMap (·.rows)) then(-1,3) else(0,0) by
    rw[hE.out,secsE_none fun j hj=>by simpa using hno.out j hj hj])
   have CP:=Lib.hid (rplaces_any (sh:=shards) (ttl:=ttl) (ses:=session) (HV.out.up D'.out) hsok)
   have hl:=(plAll_bd hsok).1
   have hl2:=(plAll_bd hsok).2
   unfold PlacesPost at CP
   generalize plAll secs 0=pls at CP hl hl2
   clear hsok hno
   go_wp2_with fail
   refine CP.out.mono ?_
   rintro e w2 ⟨A2,d2,rfl,_,hb2⟩
   have D2:=Lib.hid (D'.out.trans (hb2.mono D'.out.size))
   clear hb2
   by_cases h4:4096<sum (secs.flatMap (·.rows))
   ·obtain rfl:E=(-1,3):=by rw[hEn.out,if_pos h4]
    have t2:decide (4096<(pls.length:Int))=true:=decide_eq_true (by omega)
    clear h4 hl
    go_wp2_with fail
    go_ret2
    exact⟨rfl,D2.out⟩
   ·obtain rfl:E=(0,0):=by rw[hEn.out,if_neg h4]
    have t2:decide (4096<(pls.length:Int))=false:=decide_eq_false (by omega)
    clear h4 hl
    go_wp2_with fail
    go_ret2
    exact⟨rfl,D2.out⟩
set_option maxHeartbeats 2000000 in
theorem rseats_any {w:World} {V:Option Addr} {vc:Nat} {x:Ve} (hv:Sl secR w (.slice V x.secs.length vc) x.secs):
 Calls Tryz.prog 29 #[.agg #[.int .i64 x.shards,.int .i64 x.ttl,.int .i64 x.session,.slice V x.secs.length vc]] w fun e w'=>e=.returned (.tuple #[.int .i64 (seatsV x).1,.int .i64 (seatsV x).2])∧Below w.heap.size w w':=by
 have C1:=Lib.hid (fun W (hb:Below w.heap.size w W)=>rcheck_any (x:=x) (hv.up hb))
 have hE:=Lib.hid (show seatsV x=if(checkV x).2≠0 then(0,(checkV x).2) else(sum (allRows x),0) from rfl)
 have hok:=Lib.hid (fun h=>(checkV_ok (x:=x) h).1)
 generalize checkV x=K at C1 hE hok
 obtain⟨kn,ke⟩:=K
 simp only at C1 hE hok
 have HV:=Lib.hid hv
 obtain⟨cs,hcs⟩:∃cs:List Value,cs=[.int .i64 x.shards,.int .i64 x.ttl,.int .i64 x.session,.slice V x.secs.length vc]:=⟨_,rfl⟩
 have HCS:=Lib.hid hcs
 have K0:=Lib.hid (show Cells (w.alloc (.cells #[.int .i64 x.shards,.int .i64 x.ttl,.int .i64 x.session,.slice V x.secs.length vc] 24)) w.heap.size cs from hcs▸Cells.new _ _ _)
 clear hcs hv
 go_enter Tryz.func29,Tryz.ntmps29
 go_wp2_with fail
 refine(C1.out _ (ba _ _)).mono ?_
 rintro e w1 ⟨rfl,hb1⟩
 have k0:=K0.out.later hb1
 rw[HCS.out] at k0
 have c0:=k0.c 0 _ rfl
 have c1:=k0.c 1 _ rfl
 have c2:=k0.c 2 _ rfl
 have c3:=k0.c 3 _ rfl
 have y0:=k0.lt
 have HB:=Lib.hid ((ba w _).trans (hb1.mono (ba w _).size))
 clear hb1 k0 C1 K0
 by_cases he:ke=0
 case neg=>
  have t0:(ke !=0)=true:=by simpa using he
  have hT:=Lib.hid (show seatsV x=(0,ke) by rw[hE.out,if_pos he])
  go_wp2_with fail
  go_ret2
  exact⟨by rw[hT.out];rfl,HB.out⟩
 subst he
 have hsok:=hok.out rfl
 have CP:=Lib.hid (rplaces_any (sh:=x.shards) (ttl:=x.ttl) (ses:=x.session) (HV.out.up HB.out) hsok)
 have hl:=(plAll_bd hsok).1
 have hT:=Lib.hid (show seatsV x=(((plAll x.secs 0).length:Int),0) by rw[hE.out,if_neg (by simp),hl];rfl)
 unfold PlacesPost at CP
 generalize plAll x.secs 0=pls at CP hT
 clear hsok hl hE hok
 go_wp2_with fail
 refine CP.out.mono ?_
 rintro e w2 ⟨A2,d2,rfl,_,hb2⟩
 have D2:=Lib.hid (HB.out.trans (hb2.mono HB.out.size))
 clear hb2
 go_wp2_with fail
 go_ret2
 exact⟨by rw[hT.out];rfl,D2.out⟩
end Go.Proofs.YtlckmjiioohcmaaGreatDoor
namespace Go.Proofs.YtlckmjiioohcmaaGreatDoor
open Go.RowKit
theorem wrap_small {a:Int} (h0:0≤a) (h1:a≤1000000):wrap64 a=a:=by unfold wrap64;omega
theorem find_rows (i:Nat) (seat:Int):∀(l:List Int) (k:Nat) (f:Int),(∀n,n∈l→1≤n∧n≤64)→0≤f→f+sum l≤100000→f≤seat→
 (seat<f+sum l→∃y,(rowsOf i l k f).find? (hit seat)=some y∧(plSec i l k)[(seat-f).toNat]?=some ⟨y.sec,y.row,seat-y.first⟩)∧
 (f+sum l≤seat→(rowsOf i l k f).find? (hit seat)=none)
 |[],k,f,_,_,_,h3=>by
  refine⟨fun h=> ?_,fun _=>rfl⟩
  simp only[sum] at h
  omega
 |n::l,k,f,h,h1,h2,h3=>by
  have hn:=h n (by simp)
  have hs:0≤sum l:=sum_nonneg fun m hm=>by have:=h m (by simp[hm]);omega
  simp only[sum] at h2
  have ih:=find_rows i seat l (k+1) (f+n) (fun m hm=>h m (by simp[hm])) (by omega) (by omega)
  have hw:wrap64 (f+n)=f+n:=wrap_small (by omega) (by omega)
  have hl:(plRow i k n).length=n.toNat:=by simp[plRow]
  by_cases hlt:seat<f+n
  ·have hh:hit seat ⟨i,k,f,n⟩=true:=by simp[hit,hw,h3,hlt]
   refine⟨fun _=>⟨⟨i,k,f,n⟩,by simp only[rowsOf];rw[List.find?_cons_of_pos hh], ?_⟩,fun hge=> ?_⟩
   ·simp only[plSec]
    rw[List.getElem?_append_left (by rw[hl];omega)]
    have h9:(seat-f).toNat<n.toNat:=by omega
    simp only[plRow]
    rw[List.getElem?_map,List.getElem?_range h9]
    simp only[Option.map_some,Option.some.injEq,Pl.mk.injEq,true_and]
    omega
   ·simp only[sum] at hge;omega
  ·have hh:¬hit seat ⟨i,k,f,n⟩=true:=by simp[hit,hw];omega
   have ih2:=ih (by omega)
   simp only[rowsOf,sum]
   rw[List.find?_cons_of_neg hh]
   have e:(k:Int)+1=((k+1:Nat):Int):=by omega
   rw[e]
   refine⟨fun hge=> ?_,fun hge=>ih2.2 (by omega)⟩
   obtain⟨y,hy1,hy2⟩:=ih2.1 (by omega)
   refine⟨y,hy1, ?_⟩
   simp only[plSec]
   rw[List.getElem?_append_right (by rw[hl];omega),hl]
   rw[show(seat-f).toNat-n.toNat=(seat-(f+n)).toNat by omega]
   exact hy2
theorem find_secs (seat:Int):∀(l:List Sec) (i:Nat) (f:Int),(∀s,s∈l→∀n,n∈s.rows→1≤n∧n≤64)→0≤f→f+sum (l.flatMap (·.rows))≤100000→f≤seat→
 (seat<f+sum (l.flatMap (·.rows))→∃y,(rws l i f).find? (hit seat)=some y∧(plAll l i)[(seat-f).toNat]?=some ⟨y.sec,y.row,seat-y.first⟩)∧
 (f+sum (l.flatMap (·.rows))≤seat→(rws l i f).find? (hit seat)=none)
 |[],i,f,_,_,_,h3=>by
  refine⟨fun h=> ?_,fun _=>rfl⟩
  simp only[List.flatMap_nil,sum] at h
  omega
 |s::l,i,f,h,h1,h2,h3=>by
  have hr:=h s (by simp)
  simp only[List.flatMap_cons,sum_append] at h2⊢
  have hs1:0≤sum s.rows:=sum_nonneg fun m hm=>by have:=hr m hm;omega
  have hs2:0≤sum (l.flatMap (·.rows)):=sum_nonneg fun m hm=>by
   obtain⟨t,ht,hm⟩:=List.mem_flatMap.1 hm
   have:=h t (by simp[ht]) m hm
   omega
  have hf:=find_rows i seat s.rows 0 f hr h1 (by omega) h3
  have hl:=plSec_len i s.rows 0 hr
  simp only[rws,plAll]
  rw[List.find?_append]
  have e:(i:Int)+1=((i+1:Nat):Int):=by omega
  rw[e]
  by_cases hlt:seat<f+sum s.rows
  ·obtain⟨y,hy1,hy2⟩:=hf.1 hlt
   refine⟨fun _=>⟨y,by have hy1':=hy1;simp only[Int.natCast_zero] at hy1';rw[hy1'];rfl, ?_⟩,fun hge=>by omega⟩
   rw[List.getElem?_append_left (by omega)]
   exact hy2
  ·have ih:=find_secs seat l (i+1) (f+sum s.rows) (fun t ht=>h t (by simp[ht])) (by omega) (by omega) (by omega)
   have hno:=hf.2 (by omega)
   simp only[Int.natCast_zero] at hno
   rw[hno]
   simp only[Option.none_or]
   refine⟨fun hge=> ?_,fun hge=>ih.2 (by omega)⟩
   obtain⟨y,hy1,hy2⟩:=ih.1 (by omega)
   refine⟨y,hy1, ?_⟩
   rw[List.getElem?_append_right (by omega)]
   rw[show(seat-f).toNat-(plSec i s.rows 0).length=(seat-(f+sum s.rows)).toNat by omega]
   exact hy2
theorem placeV_bad {x:Ve} {seat:Int} (h:(checkV x).2≠0):placeV x seat=(⟨0,0,0⟩,(checkV x).2):=by
 have hf:findV x seat=(noRw,(checkV x).2):=by rw[findV,if_pos h]
 rw[placeV,hf,if_pos h]
theorem findV_none {x:Ve} {seat:Int} (h:(checkV x).2=0) (hn:(rws x.secs 0 0).find? (hit seat)=none):placeV x seat=(⟨0,0,0⟩,4):=by
 have hf:findV x seat=(noRw,4):=by rw[findV,if_neg (by omega),hn]
 rw[placeV,hf,if_pos (by simp)]
theorem placeV_none {x:Ve} {seat:Int} (h:(checkV x).2=0) (hs:seat<0∨((plAll x.secs 0).length:Int)≤seat):placeV x seat=(⟨0,0,0⟩,4):=by
 refine findV_none h ?_
 have hok:=checkV_ok h
 have hl:=(plAll_bd hok.1).1
 rcases hs with hs|hs
 ·rw[List.find?_eq_none]
  intro y hy
  have:=(rw_bd hok.1 hy).1
  simp[hit]
  omega
 ·by_cases h0:0≤seat
  ·have:=(find_secs seat x.secs 0 0 (fun s hs=>(secsOk_rows hok.1 s hs).2) (by omega) (by have:=hok.2.1;unfold allRows at this;omega) h0).2 (by omega)
   simpa using this
  ·rw[List.find?_eq_none]
   intro y hy
   have:=(rw_bd hok.1 hy).1
   simp[hit]
   omega
theorem placeV_some {x:Ve} {k:Nat} (h:(checkV x).2=0) (hk:k<(plAll x.secs 0).length):placeV x (k:Int)=((plAll x.secs 0)[k],0):=by
 have hok:=checkV_ok h
 have hl:=(plAll_bd hok.1).1
 obtain⟨y,hy1,hy2⟩:=(find_secs (k:Int) x.secs 0 0 (fun s hs=>(secsOk_rows hok.1 s hs).2) (by omega) (by have:=hok.2.1;unfold allRows at this;omega) (by omega)).1 (by omega)
 simp only[Int.natCast_zero,Int.sub_zero,Int.toNat_natCast] at hy1 hy2
 have hf:findV x (k:Int)=(y,0):=by rw[findV,if_neg (by omega),hy1]
 rw[placeV,hf,if_neg (by simp)]
 rw[List.getElem?_eq_getElem hk] at hy2
 have:=Option.some.inj hy2
 rw[this]
end Go.Proofs.YtlckmjiioohcmaaGreatDoor
