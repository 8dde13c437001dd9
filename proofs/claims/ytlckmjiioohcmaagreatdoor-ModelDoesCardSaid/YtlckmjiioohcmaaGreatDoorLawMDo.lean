/-
  Walk of the law ModelDoes. Conditions: the pinned table lies where it was laid.
-/
import Derived.Test.YtlckmjiioohcmaaGreatDoorLmV
import Derived.Test.YtlckmjiioohcmaaGreatDoorRmH
namespace Go.Proofs.YtlckmjiioohcmaaGreatDoor
open Go.RowKit
set_option maxRecDepth 20000 in
set_option maxHeartbeats 8000000 in
theorem lawDoes_any {w:World} (F:MFrm) (s:Md) (op:MOp) (hs:IsMd w F s) (ho:OpOk op) (hu:UsesAt w):
 Calls Tryz.prog 4 #[mdV F s,.agg (opCells op).toArray] w fun e w'=>e=.returned (.bool true)∧Below w.heap.size w w':=by
 have HS:=Lib.hid hs
 have HO:=Lib.hid ho
 have HU:=Lib.hid hu
 clear hs ho hu
 obtain⟨ms,hms⟩:∃ms:List Value,ms=mdCells F s:=⟨_,rfl⟩
 obtain⟨os,hos⟩:∃os:List Value,os=opCells op:=⟨_,rfl⟩
 have HMV:=Lib.hid (show mdV F s=.agg ms.toArray by rw[hms];rfl)
 have HOV:=Lib.hid hos
 rw[HMV.out,←hos]
 have S1:=Lib.hid (show(Tryz.prog.info? 31).map (·.size)=some ms.length by rw[hms];kernel_rfl)
 have S2:=Lib.hid (show(Tryz.prog.info? 46).map (·.size)=some os.length by rw[hos];kernel_rfl)
 clear hms hos
 go_enter Tryz.func4,Tryz.ntmps4
 go_upto_region 1 with fail
 obtain⟨q,hq⟩:∃q,w.heap.size=q:=⟨_,rfl⟩
 rw[hq]
 refine at_world (fun X=>Below w.heap.size w X∧BoxN X q 31 ms.toArray∧BoxN X (q+1) 46 os.toArray) (two_boxes hq _ _ _ _) fun w0 hw0=> ?_
 have B0:=Lib.hid hw0.1
 have K0:=Lib.hid hw0.2.1
 have P0:=Lib.hid hw0.2.2
 clear hw0 hq
 go_wp2_with (refine wpList_load_mid rfl 31 (.tmp 2) rfl q 0 rfl ms _ K0.out.range2 Tryz.underlying31 rfl S1.out ?_)
 have CL:=large_any F s w0 (HS.out.up B0.out)
 rw[HMV.out] at CL
 refine CL.mono ?_
 rintro e w1 ⟨b,rfl,hb,hsm⟩
 have HSM:=Lib.hid hsm
 have B1:=Lib.hid (B0.out.trans (hb.mono B0.out.size))
 have K1:=Lib.hid (K0.out.later hb)
 have P1:=Lib.hid (P0.out.later hb)
 clear hb K0 P0 B0 CL hsm
 cases b
 case true=>
  go_wp2_with fail
  refine(shown_any _ (HU.out.up B1.out HU.out.1)).mono ?_
  rintro e w9 ⟨rfl,hb9⟩
  go_wp2_with fail
  go_ret
  exact⟨rfl,B1.out.trans (hb9.mono B1.out.size)⟩
 have HN:=Lib.hid (HSM.out rfl)
 clear HSM
 have lo1:=B1.out.size
 have C1:=Lib.hid (mDo_any w.heap.size F s op w1 (MdKeep.first HS.out B1.out) B1.out.size HN.out HO.out (HU.out.up B1.out HU.out.1))
 have HK1:=Lib.hid (MdKeep.first HS.out B1.out)
 have C2:=Lib.hid (fun W (hb:MdKeep w.heap.size W F s)=>rDo_any w.heap.size F s op W hb HN.out HO.out)
 unfold MDoPost at C1 C2
 rw[HMV.out,←HOV.out] at C1 C2
 generalize mdoM s op=M at C1 C2
 obtain⟨s',r,f⟩:=M
 simp only at C1 C2
 go_wp2_with (first|refine wpList_load_mid rfl 31 (.tmp 2) rfl q 0 rfl ms _ K1.out.range2 Tryz.underlying31 rfl S1.out ?_|refine wpList_load_mid rfl 46 (.tmp 3) rfl (q+1) 0 rfl os _ P1.out.range2 Tryz.underlying46 rfl S2.out ?_)
 refine C1.out.mono ?_
 rintro e w2 ⟨F1,rfl,hb,hk⟩
 have B2:=Lib.hid (B1.out.trans (hb.mono B1.out.size))
 have K2:=Lib.hid (K1.out.later hb)
 have P2:=Lib.hid (P1.out.later hb)
 have HK2:=Lib.hid (HK1.out.up (Loose.of hb))
 have HA2:=Lib.hid hk
 clear hb hk C1 K1 P1 HK1 B1 lo1
 have S8A:=Lib.hid (show(Tryz.prog.info? 49).map (·.size)=some (rpCells r).toArray.size by kernel_rfl)
 have S8:=Lib.hid (show(Tryz.prog.info? 49).map (·.size)=some (rpCells r).length by kernel_rfl)
 have O8:=Lib.hid (show(rpCells r).toArray.all (·.oneCell')=true by simp[rpCells,Value.oneCell'])
 have L8:=Lib.hid (show(rpCells r).toArray.size=9 by rfl)
 have V8:=Lib.hid (show RpV r=.agg (rpCells r).toArray from rfl)
 obtain⟨rs,hrs⟩:∃rs:List Value,rs=rpCells r:=⟨_,rfl⟩
 have HRS:=Lib.hid hrs
 rw[V8.out] at C2⊢
 rw[←hrs] at C2 S8 S8A O8 L8⊢
 clear hrs V8
 obtain⟨hs1,hhs1⟩:∃hs:List Value,hs=mdCells F1 s':=⟨_,rfl⟩
 rw[show mdV F1 s'=.agg hs1.toArray by rw[hhs1];rfl]
 have HH1:=Lib.hid hhs1
 have T1:=Lib.hid (show(Tryz.prog.info? 31).map (·.size)=some hs1.length by rw[hhs1];kernel_rfl)
 have T1A:=Lib.hid (show(Tryz.prog.info? 31).map (·.size)=some hs1.toArray.size by rw[hhs1];kernel_rfl)
 have T1L:=Lib.hid (show hs1.toArray.size=7 by rw[hhs1];rfl)
 have T1O:=Lib.hid (show hs1.toArray.all (·.oneCell')=true by rw[hhs1];simp[mdCells,Value.oneCell'])
 clear hhs1
 go_upto_region 4 with(first|refine wpList_store_row rfl 31 (.tmp 5) (.tmp 18) rfl w2.heap.size hs1.toArray rfl rfl 31 _ (two_boxes rfl _ _ _ _).2.1 T1A.out T1L.out.symm T1O.out ?_|refine wpList_store_row rfl 49 (.tmp 6) (.tmp 19) rfl (w2.heap.size+1) rs.toArray rfl rfl 49 _ (two_rows (two_boxes rfl _ _ _ _).2.1 (two_boxes rfl _ _ _ _).2.2 (by omega) _ #[]).1 S8A.out L8.out.symm O8.out ?_)
 have htb:=two_boxes (W:=w2) rfl #[.int .i64 0,.int .i64 0,.int .i64 0,.slice none 0 0,.int .i64 0,.slice none 0 0,.slice none 0 0] #[.int .i64 0,.int .i64 0,.int .i64 0,.int .i64 0,.int .u32 0,.int .u32 0,.int .u64 0,.int .u64 0,.int .i64 0] 31 49
 have hrow:=two_rows htb.2.1 htb.2.2 (by omega) hs1.toArray rs.toArray
 have hbw:Below w2.heap.size w2 _:=(htb.1.grown hrow.2.1 htb.1.size (fun k hk=>by injection hk with hk;omega)).grown hrow.2.2.1 (Nat.le_trans htb.1.size hrow.2.1.size) (fun k hk=>by injection hk with hk;omega)
 refine at_world (fun X=>Below w2.heap.size w2 X∧BoxN X w2.heap.size 31 hs1.toArray∧BoxN X (w2.heap.size+1) 49 rs.toArray) ⟨hbw,hrow.2.2.2.1,hrow.2.2.2.2⟩ fun w3 hX=> ?_
 clear htb hrow hbw
 have B3:=Lib.hid (B2.out.trans (hX.1.mono B2.out.size))
 have K3:=Lib.hid (K2.out.later hX.1)
 have P3:=Lib.hid (P2.out.later hX.1)
 have HK3:=Lib.hid (HK2.out.up (Loose.of hX.1))
 have HA3:=Lib.hid (HA2.out.up (Loose.of hX.1))
 have G3:=Lib.hid hX.2.1
 have R3:=Lib.hid hX.2.2
 generalize w2.heap.size=a at G3 R3⊢
 clear hX B2 K2 P2 HK2 HA2
 have LO3:=Lib.hid (C2.out w3 HK3.out)
 clear C2
 go_wp2_with (first|refine wpList_load_mid rfl 31 (.tmp 2) rfl q 0 rfl ms _ K3.out.range2 Tryz.underlying31 rfl S1.out ?_|refine wpList_load_mid rfl 46 (.tmp 3) rfl (q+1) 0 rfl os _ P3.out.range2 Tryz.underlying46 rfl S2.out ?_)
 refine LO3.out.mono ?_
 rintro e w4 ⟨F2,rfl,hb,hk⟩
 have B4:=Lib.hid (B3.out.trans (hb.mono B3.out.size))
 have G4:=Lib.hid (G3.out.later hb)
 have R4:=Lib.hid (R3.out.later hb)
 have HA4:=Lib.hid (HA3.out.up (Loose.of hb))
 have HB4:=Lib.hid hk
 have l3:=Nat.lt_of_lt_of_le G3.out.lt hb.size
 have l4:=Nat.lt_of_lt_of_le R3.out.lt hb.size
 clear hb hk LO3 K3 P3 HK3 B3 G3 R3 HA3
 obtain⟨hs2,hhs2⟩:∃hs:List Value,hs=mdCells F2 s':=⟨_,rfl⟩
 rw[show mdV F2 s'=.agg hs2.toArray by rw[hhs2];rfl]
 have HH2:=Lib.hid hhs2
 have T2:=Lib.hid (show(Tryz.prog.info? 31).map (·.size)=some hs2.length by rw[hhs2];kernel_rfl)
 have T2A:=Lib.hid (show(Tryz.prog.info? 31).map (·.size)=some hs2.toArray.size by rw[hhs2];kernel_rfl)
 have T2L:=Lib.hid (show hs2.toArray.size=7 by rw[hhs2];rfl)
 have T2O:=Lib.hid (show hs2.toArray.all (·.oneCell')=true by rw[hhs2];simp[mdCells,Value.oneCell'])
 clear hhs2
 go_upto_region 5 with(first|refine wpList_store_row rfl 31 (.tmp 8) (.tmp 25) rfl w4.heap.size hs2.toArray rfl rfl 31 _ (two_boxes rfl _ _ _ _).2.1 T2A.out T2L.out.symm T2O.out ?_|refine wpList_store_row rfl 49 (.tmp 9) (.tmp 26) rfl (w4.heap.size+1) rs.toArray rfl rfl 49 _ (two_rows (two_boxes rfl _ _ _ _).2.1 (two_boxes rfl _ _ _ _).2.2 (by omega) _ #[]).1 S8A.out L8.out.symm O8.out ?_)
 have htb:=two_boxes (W:=w4) rfl #[.int .i64 0,.int .i64 0,.int .i64 0,.slice none 0 0,.int .i64 0,.slice none 0 0,.slice none 0 0] #[.int .i64 0,.int .i64 0,.int .i64 0,.int .i64 0,.int .u32 0,.int .u32 0,.int .u64 0,.int .u64 0,.int .i64 0] 31 49
 have hrow:=two_rows htb.2.1 htb.2.2 (by omega) hs2.toArray rs.toArray
 have hbw:Below w4.heap.size w4 _:=(htb.1.grown hrow.2.1 htb.1.size (fun k hk=>by injection hk with hk;omega)).grown hrow.2.2.1 (Nat.le_trans htb.1.size hrow.2.1.size) (fun k hk=>by injection hk with hk;omega)
 refine at_world (fun X=>Below w4.heap.size w4 X∧BoxN X w4.heap.size 31 hs2.toArray∧BoxN X (w4.heap.size+1) 49 rs.toArray) ⟨hbw,hrow.2.2.2.1,hrow.2.2.2.2⟩ fun w5 hX=> ?_
 clear htb hrow hbw
 have B5:=Lib.hid (B4.out.trans (hX.1.mono B4.out.size))
 have HA5:=Lib.hid (HA4.out.up (Loose.of hX.1))
 have HB5:=Lib.hid (HB4.out.up (Loose.of hX.1))
 have G5:=Lib.hid (G4.out.later hX.1)
 have R5:=Lib.hid (R4.out.later hX.1)
 have D5:=Lib.hid hX.2.1
 have E5:=Lib.hid hX.2.2
 generalize w4.heap.size=d at D5 E5⊢
 clear hX B4 G4 R4 HA4 HB4 l3 l4
 go_wp2_with (first|refine wpList_load_mid rfl 31 (.tmp 5) rfl a 0 rfl hs1 _ G5.out.range2 Tryz.underlying31 rfl T1.out ?_|refine wpList_load_mid rfl 31 (.tmp 8) rfl d 0 rfl hs2 _ D5.out.range2 Tryz.underlying31 rfl T2.out ?_)
 have CS:=sameMd_any HA5.out.isMd HB5.out.isMd
 rw[show mdV F1 s'=.agg hs1.toArray by rw[HH1.out];rfl,show mdV F2 s'=.agg hs2.toArray by rw[HH2.out];rfl] at CS
 refine CS.mono ?_
 rintro e w6 ⟨rfl,hb⟩
 have B6:=Lib.hid (B5.out.trans (hb.mono B5.out.size))
 have R6:=Lib.hid (R5.out.later hb)
 have E6:=Lib.hid (E5.out.later hb)
 clear hb CS B5 R5 E5
 rw[HRS.out] at R6 E6 S8
 obtain⟨er,se,nn,dl,⟨ts,tow,tse,te⟩,pl⟩:=r
 unfold rpCells at R6 E6 S8
 simp only at R6 E6 S8
 go_wp2_with (first|refine wpList_load_midg rfl 49 (.tmp 6) rfl (a+1) 0 rfl [.int .i64 er,.int .i64 se,.int .i64 nn,.int .i64 dl,.int .u32 ts,.int .u32 tow,.int .u64 tse,.int .u64 te,.int .i64 pl] _ R6.out.range2 Tryz.underlying49 rfl S8.out ?_|refine wpList_load_midg rfl 49 (.tmp 9) rfl (d+1) 0 rfl [.int .i64 er,.int .i64 se,.int .i64 nn,.int .i64 dl,.int .u32 ts,.int .u32 tow,.int .u64 tse,.int .u64 te,.int .i64 pl] _ E6.out.range2 Tryz.underlying49 rfl S8.out ?_)
 refine(shown_any _ (HU.out.up B6.out HU.out.1)).mono ?_
 rintro e w9 ⟨rfl,hb9⟩
 go_wp2_with fail
 go_ret
 exact⟨rfl,B6.out.trans (hb9.mono B6.out.size)⟩
end Go.Proofs.YtlckmjiioohcmaaGreatDoor
