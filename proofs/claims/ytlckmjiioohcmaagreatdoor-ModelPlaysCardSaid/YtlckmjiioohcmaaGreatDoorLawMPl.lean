/-
  Walk of the law ModelPlays. Conditions: the pinned table lies where it was laid.
-/
import Derived.Test.YtlckmjiioohcmaaGreatDoorLmV
import Derived.Test.YtlckmjiioohcmaaGreatDoorRmI
namespace Go.Proofs.YtlckmjiioohcmaaGreatDoor
open Go.RowKit
theorem newM_small (x:Ve):(newM x).1.qs.length≤1000∧∀l,l∈(newM x).1.qs→l.length≤1000:=by
 by_cases h:(newM x).2=0
 ·exact md_small (newM_ok h)
 ·unfold newM at h⊢
  by_cases h1:(seatsV x).2≠0
  ·rw[if_pos h1]
   simp[zeroMd]
  ·rw[if_neg h1] at h
   exact absurd rfl h
set_option maxRecDepth 20000 in
set_option maxHeartbeats 8000000 in
theorem lawPlaysMd_any {w:World} {V:Option Addr} {vc:Nat} {x:Ve} (hv:Sl secR w (.slice V x.secs.length vc) x.secs) (hb1:Bd x.shards) (hb2:Bd x.ttl) (hb3:Bd x.session) {A:Option Addr} {c:Nat} {ops:List MOp} (ho:Sl opR w (.slice A ops.length c) ops) (hu:UsesAt w):
 Calls Tryz.prog 3 #[.agg #[.int .i64 x.shards,.int .i64 x.ttl,.int .i64 x.session,.slice V x.secs.length vc],.slice A ops.length c] w fun e w'=>e=.returned (.bool true)∧Below w.heap.size w w':=by
 have hcap:=ho.cap
 have HO:=Lib.hid ho
 have HU:=Lib.hid hu
 have CW:=Lib.hid (fun W (hb:Below w.heap.size w W)=>wide_any (hv.up hb))
 have CN:=Lib.hid (fun W (hb:Below w.heap.size w W)=>new_any (hv.up hb) hb1 hb2 hb3)
 have CR:=Lib.hid (fun W (hb:Below w.heap.size w W)=>rNew_any (hv.up hb) hb1 hb2 hb3)
 have HSM:=Lib.hid (newM_small x)
 clear hv ho hu
 unfold NewPost at CN CR
 unfold WidePost at CW
 generalize newM x=M at CN CR HSM
 obtain⟨s,E⟩:=M
 simp only at CN CR HSM
 go_enter Tryz.func3,Tryz.ntmps3
 go_upto_region 1 with fail
 refine at_world (fun X=>Below w.heap.size w X∧BoxN X w.heap.size 24 #[.int .i64 x.shards,.int .i64 x.ttl,.int .i64 x.session,.slice V x.secs.length vc]) ⟨ba _ _,BoxN.new _ _ _⟩ fun w0 hw0=> ?_
 have B0:=Lib.hid hw0.1
 have K0:=Lib.hid hw0.2
 clear hw0
 have a0:=K0.out.cell 0 _ rfl
 have a1:=K0.out.cell 1 _ rfl
 have a2:=K0.out.cell 2 _ rfl
 have a3:=K0.out.cell 3 _ rfl
 have z0:=K0.out.lt
 go_cut [29] from 13 to 29 (fun v W=> ∃tb:Bool,v=.bool tb∧Below w0.heap.size w0 W)
 case first=>as_aux_lemma=>
  go_wp2_with fail
  refine(CW.out _ B0.out).mono ?_
  rintro e w1 ⟨b,rfl,hb⟩
  have HB:=Lib.hid hb
  clear hb
  cases b
  case true=>
   go_wp2_with fail
   go_meet
   exact⟨_,rfl,HB.out⟩
  by_cases h1:40<ops.length
  case neg=>
   have t1:decide ((40:Int)<(ops.length:Int))=false:=decide_eq_false (by omega)
   have t3:decide ((410:Int)<(ops.length:Int))=false:=decide_eq_false (by omega)
   have t1':decide (40<ops.length)=false:=decide_eq_false (by omega)
   have t3':decide (410<ops.length)=false:=decide_eq_false (by omega)
   clear h1
   go_wp2_with fail
   go_meet
   exact⟨_,rfl,HB.out⟩
  have t1:decide ((40:Int)<(ops.length:Int))=true:=decide_eq_true (by omega)
  have t1':decide (40<ops.length)=true:=decide_eq_true (by omega)
  by_cases h2:ops.length≤400
  case pos=>
   have t2:decide ((ops.length:Int)≤400)=true:=decide_eq_true (by omega)
   have t2':decide (ops.length≤400)=true:=decide_eq_true (by omega)
   go_wp2_with fail
   go_meet
   exact⟨_,rfl,HB.out⟩
  have t2:decide ((ops.length:Int)≤400)=false:=decide_eq_false (by omega)
  have t2':decide (ops.length≤400)=false:=decide_eq_false (by omega)
  by_cases h3:410<ops.length
  ·have t3:decide ((410:Int)<(ops.length:Int))=true:=decide_eq_true (by omega)
   have t3':decide (410<ops.length)=true:=decide_eq_true (by omega)
   go_wp2_with fail
   go_meet
   exact⟨_,rfl,HB.out⟩
  ·have t3:decide ((410:Int)<(ops.length:Int))=false:=decide_eq_false (by omega)
   have t3':decide (410<ops.length)=false:=decide_eq_false (by omega)
   go_wp2_with fail
   go_meet
   exact⟨_,rfl,HB.out⟩
 case rest=>
 obtain⟨tb,rfl,hb⟩:=hcut
 rename World=>w1
 have B1:=Lib.hid (B0.out.trans (hb.mono B0.out.size))
 have K1:=Lib.hid (K0.out.later hb)
 clear hb a0 a1 a2 a3 z0 K0 B0 CW
 have a0:=K1.out.cell 0 _ rfl
 have a1:=K1.out.cell 1 _ rfl
 have a2:=K1.out.cell 2 _ rfl
 have a3:=K1.out.cell 3 _ rfl
 have z0:=K1.out.lt
 cases tb
 case true=>
  go_wp2_with fail
  refine(shown_any _ (HU.out.up B1.out HU.out.1)).mono ?_
  rintro e w9 ⟨rfl,hb9⟩
  go_wp2_with fail
  go_ret
  exact⟨rfl,B1.out.trans (hb9.mono B1.out.size)⟩
 go_wp2_with fail
 refine(CN.out _ B1.out).mono ?_
 rintro e w2 ⟨F,rfl,hb,hI⟩
 have B2:=Lib.hid (B1.out.trans (hb.mono B1.out.size))
 have K2:=Lib.hid (K1.out.later hb)
 have HI2:=Lib.hid hI
 clear hb hI a0 a1 a2 a3 z0 CN K1 B1
 obtain⟨hs1,hhs1⟩:∃hs:List Value,hs=mdCells F s:=⟨_,rfl⟩
 rw[show mdV F s=.agg hs1.toArray by rw[hhs1];rfl]
 have HH1:=Lib.hid hhs1
 have T1:=md_s hhs1
 have T1A:=md_S hhs1
 have T1L:=md_l hhs1
 have T1O:=md_o hhs1
 clear hhs1
 go_upto_region 4 with(refine wpList_store_row rfl 31 (.tmp 5) (.tmp 34) rfl w2.heap.size hs1.toArray rfl rfl 31 _ (BoxN.new _ _ _) T1A.out T1L.out.symm T1O.out ?_)
 have hbn:BoxN (w2.alloc (.cells #[.int .i64 0,.int .i64 0,.int .i64 0,.slice none 0 0,.int .i64 0,.slice none 0 0,.slice none 0 0] 31)) w2.heap.size 31 #[.int .i64 0,.int .i64 0,.int .i64 0,.slice none 0 0,.int .i64 0,.slice none 0 0,.slice none 0 0]:=BoxN.new _ _ _
 have hrow:=grownBy_setRow hbn hs1.toArray
 refine at_world (fun X=>Below w2.heap.size w2 X∧BoxN X w2.heap.size 31 hs1.toArray) ⟨(ba w2 (.cells #[.int .i64 0,.int .i64 0,.int .i64 0,.slice none 0 0,.int .i64 0,.slice none 0 0,.slice none 0 0] 31)).grown hrow.1 (by simp) (fun k hk=>by injection hk with hk;omega),hrow.2⟩ fun w3 hX=> ?_
 clear hbn hrow
 have B3:=Lib.hid (B2.out.trans (hX.1.mono B2.out.size))
 have K3:=Lib.hid (K2.out.later hX.1)
 have HI3:=Lib.hid (HI2.out.up hX.1)
 have G3:=Lib.hid hX.2
 generalize w2.heap.size=a at G3⊢
 clear hX B2 K2 HI2
 have a0:=K3.out.cell 0 _ rfl
 have a1:=K3.out.cell 1 _ rfl
 have a2:=K3.out.cell 2 _ rfl
 have a3:=K3.out.cell 3 _ rfl
 have z0:=K3.out.lt
 go_wp2_with fail
 refine(CR.out _ B3.out).mono ?_
 rintro e w4 ⟨G,rfl,hb,hI⟩
 have B4:=Lib.hid (B3.out.trans (hb.mono B3.out.size))
 have HI4:=Lib.hid (HI3.out.up hb)
 have HJ4:=Lib.hid hI
 have G4:=Lib.hid (G3.out.later hb)
 clear hb hI a0 a1 a2 a3 z0 CR K3 B3 HI3 G3
 obtain⟨hs2,hhs2⟩:∃hs:List Value,hs=mdCells G s:=⟨_,rfl⟩
 rw[show mdV G s=.agg hs2.toArray by rw[hhs2];rfl]
 have HH2:=Lib.hid hhs2
 have T2:=md_s hhs2
 have T2A:=md_S hhs2
 have T2L:=md_l hhs2
 have T2O:=md_o hhs2
 clear hhs2
 go_upto_region 5 with(refine wpList_store_row rfl 31 (.tmp 7) (.tmp 39) rfl w4.heap.size hs2.toArray rfl rfl 31 _ (BoxN.new _ _ _) T2A.out T2L.out.symm T2O.out ?_)
 have hbn:BoxN (w4.alloc (.cells #[.int .i64 0,.int .i64 0,.int .i64 0,.slice none 0 0,.int .i64 0,.slice none 0 0,.slice none 0 0] 31)) w4.heap.size 31 #[.int .i64 0,.int .i64 0,.int .i64 0,.slice none 0 0,.int .i64 0,.slice none 0 0,.slice none 0 0]:=BoxN.new _ _ _
 have hrow:=grownBy_setRow hbn hs2.toArray
 refine at_world (fun X=>Below w4.heap.size w4 X∧BoxN X w4.heap.size 31 hs2.toArray) ⟨(ba w4 (.cells #[.int .i64 0,.int .i64 0,.int .i64 0,.slice none 0 0,.int .i64 0,.slice none 0 0,.slice none 0 0] 31)).grown hrow.1 (by simp) (fun k hk=>by injection hk with hk;omega),hrow.2⟩ fun w5 hX=> ?_
 clear hbn hrow
 have B5:=Lib.hid (B4.out.trans (hX.1.mono B4.out.size))
 have HI5:=Lib.hid (HI4.out.up hX.1)
 have HJ5:=Lib.hid (HJ4.out.up hX.1)
 have G5:=Lib.hid (G4.out.later hX.1)
 have D5:=Lib.hid hX.2
 generalize w4.heap.size=d at D5⊢
 clear hX B4 HI4 HJ4 G4
 go_wp2_with (first|refine wpList_load_mid rfl 31 (.tmp 5) rfl a 0 rfl hs1 _ G5.out.range2 Tryz.underlying31 rfl T1.out ?_|refine wpList_load_mid rfl 31 (.tmp 7) rfl d 0 rfl hs2 _ D5.out.range2 Tryz.underlying31 rfl T2.out ?_)
 have CS:=sameMd_any HI5.out HJ5.out
 rw[show mdV F s=.agg hs1.toArray by rw[HH1.out];rfl,show mdV G s=.agg hs2.toArray by rw[HH2.out];rfl] at CS
 refine CS.mono ?_
 rintro e w6 ⟨rfl,hb⟩
 have B6:=Lib.hid (B5.out.trans (hb.mono B5.out.size))
 have HI6:=Lib.hid (HI5.out.up hb)
 have HJ6:=Lib.hid (HJ5.out.up hb)
 have G6:=Lib.hid (G5.out.later hb)
 have D6:=Lib.hid (D5.out.later hb)
 clear hb CS B5 HI5 HJ5 G5 D5
 have tE:(E !=E)=false:=by simp
 have HK6:=Lib.hid (MdKeep.first HI6.out (Below.refl w6.heap.size w6))
 have HL6:=Lib.hid (MdKeep.first HJ6.out (Below.refl w6.heap.size w6))
 obtain⟨lo,hlo⟩:∃lo,w6.heap.size=lo:=⟨_,rfl⟩
 rw[hlo] at HK6 HL6
 have C1:=Lib.hid (play_any lo F s A c ops w6 HK6.out (by omega) HSM.out (HO.out.up B6.out) (HU.out.up B6.out HU.out.1))
 have C2:=Lib.hid (fun W (hb:Below w6.heap.size w6 W)=>rPlay_any lo G s A c ops W (HL6.out.up (Loose.of hb)) (by have:=hb.size;omega) HSM.out (HO.out.up (B6.out.trans (hb.mono B6.out.size))))
 clear HK6 HL6 HI6 HJ6 hlo
 unfold PlayPost at C1 C2
 rw[show mdV F s=.agg hs1.toArray by rw[HH1.out];rfl] at C1
 rw[show mdV G s=.agg hs2.toArray by rw[HH2.out];rfl] at C2
 generalize playM s ops=M at C1 C2
 obtain⟨s',rs,f⟩:=M
 simp only at C1 C2
 go_wp2_with (first|refine wpList_load_mid rfl 31 (.tmp 5) rfl a 0 rfl hs1 _ G6.out.range2 Tryz.underlying31 rfl T1.out ?_)
 refine C1.out.mono ?_
 rintro e w7 ⟨F1,v1,rfl,hown,hb,hk⟩
 have B7:=Lib.hid (B6.out.trans (hb.mono B6.out.size))
 have BB7:=Lib.hid hb
 have D7:=Lib.hid (D6.out.later hb)
 have HA7:=Lib.hid hk.isMd
 obtain⟨A1,c1,rfl,_,_,hown⟩:=hown.form
 have HO7:=Lib.hid hown.sl
 clear hb hk hown C1 B6 G6 D6
 obtain⟨hs3,hhs3⟩:∃hs:List Value,hs=mdCells F1 s':=⟨_,rfl⟩
 rw[show mdV F1 s'=.agg hs3.toArray by rw[hhs3];rfl]
 have HH3:=Lib.hid hhs3
 have T3:=md_s hhs3
 have T3A:=md_S hhs3
 have T3L:=md_l hhs3
 have T3O:=md_o hhs3
 clear hhs3
 go_upto_region 8 with(refine wpList_store_row rfl 31 (.tmp 9) (.tmp 54) rfl w7.heap.size hs3.toArray rfl rfl 31 _ (BoxN.new _ _ _) T3A.out T3L.out.symm T3O.out ?_)
 have hbn:BoxN (w7.alloc (.cells #[.int .i64 0,.int .i64 0,.int .i64 0,.slice none 0 0,.int .i64 0,.slice none 0 0,.slice none 0 0] 31)) w7.heap.size 31 #[.int .i64 0,.int .i64 0,.int .i64 0,.slice none 0 0,.int .i64 0,.slice none 0 0,.slice none 0 0]:=BoxN.new _ _ _
 have hrow:=grownBy_setRow hbn hs3.toArray
 refine at_world (fun X=>Below w7.heap.size w7 X∧BoxN X w7.heap.size 31 hs3.toArray) ⟨(ba w7 (.cells #[.int .i64 0,.int .i64 0,.int .i64 0,.slice none 0 0,.int .i64 0,.slice none 0 0,.slice none 0 0] 31)).grown hrow.1 (by simp) (fun k hk=>by injection hk with hk;omega),hrow.2⟩ fun w8 hX=> ?_
 clear hbn hrow
 have B8:=Lib.hid (B7.out.trans (hX.1.mono B7.out.size))
 have BB8:=Lib.hid (BB7.out.trans (hX.1.mono BB7.out.size))
 have D8:=Lib.hid (D7.out.later hX.1)
 have HA8:=Lib.hid (HA7.out.up hX.1)
 have HO8:=Lib.hid (HO7.out.up hX.1)
 have G8:=Lib.hid hX.2
 generalize w7.heap.size=a2 at G8⊢
 clear hX B7 BB7 D7 HA7 HO7
 go_wp2_with (first|refine wpList_load_mid rfl 31 (.tmp 7) rfl d 0 rfl hs2 _ D8.out.range2 Tryz.underlying31 rfl T2.out ?_)
 refine(C2.out _ BB8.out).mono ?_
 rintro e w9 ⟨F2,v2,rfl,hown,hb,hk⟩
 have B9:=Lib.hid (B8.out.trans (hb.mono B8.out.size))
 have HA9:=Lib.hid (HA8.out.up hb)
 have HO9:=Lib.hid (HO8.out.up hb)
 have G9:=Lib.hid (G8.out.later hb)
 have HB9:=Lib.hid hk.isMd
 obtain⟨A2,c2,rfl,_,_,hown⟩:=hown.form
 have HP9:=Lib.hid hown.sl
 clear hb hk hown C2 B8 BB8 D8 HA8 HO8 G8
 obtain⟨hs4,hhs4⟩:∃hs:List Value,hs=mdCells F2 s':=⟨_,rfl⟩
 rw[show mdV F2 s'=.agg hs4.toArray by rw[hhs4];rfl]
 have HH4:=Lib.hid hhs4
 have T4:=md_s hhs4
 have T4A:=md_S hhs4
 have T4L:=md_l hhs4
 have T4O:=md_o hhs4
 clear hhs4
 go_upto_region 9 with(refine wpList_store_row rfl 31 (.tmp 11) (.tmp 61) rfl w9.heap.size hs4.toArray rfl rfl 31 _ (BoxN.new _ _ _) T4A.out T4L.out.symm T4O.out ?_)
 have hbn:BoxN (w9.alloc (.cells #[.int .i64 0,.int .i64 0,.int .i64 0,.slice none 0 0,.int .i64 0,.slice none 0 0,.slice none 0 0] 31)) w9.heap.size 31 #[.int .i64 0,.int .i64 0,.int .i64 0,.slice none 0 0,.int .i64 0,.slice none 0 0,.slice none 0 0]:=BoxN.new _ _ _
 have hrow:=grownBy_setRow hbn hs4.toArray
 refine at_world (fun X=>Below w9.heap.size w9 X∧BoxN X w9.heap.size 31 hs4.toArray) ⟨(ba w9 (.cells #[.int .i64 0,.int .i64 0,.int .i64 0,.slice none 0 0,.int .i64 0,.slice none 0 0,.slice none 0 0] 31)).grown hrow.1 (by simp) (fun k hk=>by injection hk with hk;omega),hrow.2⟩ fun w10 hX=> ?_
 clear hbn hrow
 have B10:=Lib.hid (B9.out.trans (hX.1.mono B9.out.size))
 have HA10:=Lib.hid (HA9.out.up hX.1)
 have HB10:=Lib.hid (HB9.out.up hX.1)
 have HO10:=Lib.hid (HO9.out.up hX.1)
 have HP10:=Lib.hid (HP9.out.up hX.1)
 have G10:=Lib.hid (G9.out.later hX.1)
 have D10:=Lib.hid hX.2
 generalize w9.heap.size=d2 at D10⊢
 clear hX B9 HA9 HB9 HO9 HP9 G9
 go_wp2_with (first|refine wpList_load_mid rfl 31 (.tmp 9) rfl a2 0 rfl hs3 _ G10.out.range2 Tryz.underlying31 rfl T3.out ?_|refine wpList_load_mid rfl 31 (.tmp 11) rfl d2 0 rfl hs4 _ D10.out.range2 Tryz.underlying31 rfl T4.out ?_)
 have CS:=sameMd_any HA10.out HB10.out
 rw[show mdV F1 s'=.agg hs3.toArray by rw[HH3.out];rfl,show mdV F2 s'=.agg hs4.toArray by rw[HH4.out];rfl] at CS
 refine CS.mono ?_
 rintro e w11 ⟨rfl,hb⟩
 have B11:=Lib.hid (B10.out.trans (hb.mono B10.out.size))
 have HO11:=Lib.hid (HO10.out.up hb)
 have HP11:=Lib.hid (HP10.out.up hb)
 clear hb CS B10 HA10 HB10 HO10 HP10 G10 D10
 have tf:(f==f)=true:=by simp
 go_wp2_with fail
 refine(sameRp_any HO11.out HP11.out).mono ?_
 rintro e w12 ⟨rfl,hb⟩
 have B12:=Lib.hid (B11.out.trans (hb.mono B11.out.size))
 clear hb B11 HO11 HP11
 go_wp2_with fail
 refine(shown_any _ (HU.out.up B12.out HU.out.1)).mono ?_
 rintro e w13 ⟨rfl,hb9⟩
 go_wp2_with fail
 go_ret
 exact⟨rfl,B12.out.trans (hb9.mono B12.out.size)⟩
end Go.Proofs.YtlckmjiioohcmaaGreatDoor
