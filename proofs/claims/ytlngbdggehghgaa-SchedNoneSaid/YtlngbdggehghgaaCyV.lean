/-
  The law SchedNone, in company. Conditions: as each theorem says.
-/
import Derived.Test.YtlngbdggehghgaaCyU
import Derived.Test.YtlngbdggehghgaaCyH
namespace Go.Proofs.Ytlngbdggehghgaa
set_option linter.unusedSimpArgs false
set_option linter.unusedVariables false
namespace Co
open Go.Conc Go.RowKit
noncomputable def body5:Code:=Try.f5.body.getD .skip
noncomputable def rest5:Code:=sndC (sndC (sndC body5))
noncomputable def lb5:Code:=inC (inC (sndC (fstC rest5)))
set_option maxRecDepth 100000 in
set_option maxHeartbeats 8000000 in
theorem none_end {Z:Goal} {v v1:World} {n:Int} {tk:Nat} {g:Gh} (hZ:Z.Ok Try.prog) (hF:Fin Z v) (L:Lone g) (hn:Bd n) (htk:tk<65536) (c1:Chg (fun _=>False) v v1) (j2 j3 j5 j6 j7 j8 j9 j10 j11 j12 j13 j14 j15 j16 j17 j18 j19 j20 j21 j22 j23 j24 j25 j26 j27 j28 j29 j30 j31 j32 j33 j34 j35 j36 j37 j38 j39 j40 j41 j42 j43 j44 j45 j46 j47 j48 j49 j50 j51 j52 j53 j54 j55 j56 j57 j58 j59 j60 j61 j62 j63 j64 j65 j66 j67 j68 j69 j70 j71 j72 j73 j74 j75 j76 j77 j78 j79 j80 j81 j82 j83 j84 j85 j86 j87 j88 j89 j90 j91 j92 j93 j94 j95 j96 j97 j98 j99 j100 j101 j102 j103 j104 j105 j106 j107 j108 j109 j110 j111 j112 j113 j114 j115 j116 j117 j118 j119 j120 j121 j122 j123 j124 j125 j126 j127 j128 j129 j130 j131 j132 j133 j134 j135 j136 j137 j138 j139 j140 j141 j142 j143 j144 j145 j146 j147 j148 j149 j150 j151 j152 j153 j154 j155 j156 j157 j158 j159 j160 j161 j162 j163 j164 j165 j166 j167:Value):
 Co Try.prog Z 0 (g.fx Try.prog κL 0) (G ((Go.Conc.base 5).at ⟨#[.int .i64 n,.int .u16 (tk:Int),j2,j3,.bool false,j5,j6,j7,j8,j9,j10,j11,j12,j13,j14,j15,j16,j17,j18,j19,j20,j21,j22,j23,j24,j25,j26,j27,j28,j29,j30,j31,j32,j33,j34,j35,j36,j37,j38,j39,j40,j41,j42,j43,j44,j45,j46,j47,j48,j49,j50,j51,j52,j53,j54,j55,j56,j57,j58,j59,j60,j61,j62,j63,j64,j65,j66,j67,j68,j69,j70,j71,j72,j73,j74,j75,j76,j77,j78,j79,j80,j81,j82,j83,j84,j85,j86,j87,j88,j89,j90,j91,j92,j93,j94,j95,j96,j97,j98,j99,j100,j101,j102,j103,j104,j105,j106,j107,j108,j109,j110,j111,j112,j113,j114,j115,j116,j117,j118,j119,j120,j121,j122,j123,j124,j125,j126,j127,j128,j129,j130,j131,j132,j133,j134,j135,j136,j137,j138,j139,j140,j141,j142,j143,j144,j145,j146,j147,j148,j149,j150,j151,j152,j153,j154,j155,j156,j157,j158,j159,j160,j161,j162,j163,j164,j165,j166,j167],[]⟩ [.code (sndC rest5)]) []) v1:=by
 have hX:=L.ok.fx κL_ok
 have C1:=Hd.mk c1
 clear c1
 simp only[rest5,body5,Try.f5,Option.getD_some,sndC]
 refine co_seq hZ hX ?_
 refine c_region (n:=0) (J:=fun _ a=>Co Try.prog Z 0 (g.fx Try.prog κL 0) a v1) (Co.calmly hZ hX) [0,1,2,3,4,5,6] rfl ?_
 refine co_call2 hZ hX rfl rfl (by decide) rfl Try.func22 (by kernel_rfl) (by kernel_rfl) (vals:=#[]) (by simp[Act.eval]) ?_
 refine two_co hZ hX _ _ fun lv X' v2 hq=> ?_
 obtain⟨rfl,hlv,hc2⟩:=hq
 obtain⟨lA,lc,rfl,_,_,_⟩:=hlv.form
 rw[Frame.finish_at]
 walk_nrm
 refine co_call2 hZ hX rfl rfl (by decide) rfl Try.func21 (by kernel_rfl) (by kernel_rfl) (vals:=#[.nilIface,.slice lA twoL.length lc,.int .i64 5]) (by simp[Act.eval]) ?_
 refine New_no hZ hX _ _ fun e X' v3 hq=> ?_
 obtain⟨rfl,rfl,rfl⟩:=hq
 have C2:=Hd.mk (C1.out.trans hc2 (fun _ _=>id))
 clear hlv hc2 C1
 rw[Frame.finish_at]
 walk_nrm
 refine co_value hZ hX (.tuple #[.pointer none,.int .i64 1]) rfl rfl (by decide) (fun _=>by simp[go_sem,execOp,Act.eval]) (fun _=>by simp[go_sem,execOp,Act.eval]) ?_
 walk_nrm
 refine co_value hZ hX (.pointer none) rfl rfl (by decide) (fun _=>by simp[go_sem,execOp,Act.eval]) (fun _=>by simp[go_sem,execOp,Act.eval]) ?_
 walk_nrm
 refine co_value hZ hX (.int .i64 1) rfl rfl (by decide) (fun _=>by simp[go_sem,execOp,Act.eval]) (fun _=>by simp[go_sem,execOp,Act.eval]) ?_
 walk_nrm
 refine co_value hZ hX (.pointer none) rfl rfl (by decide) (fun _=>by simp[go_sem,execOp,Act.eval]) (fun _=>by simp[go_sem,execOp,Act.eval]) ?_
 walk_nrm
 refine co_value hZ hX (.int .i64 1) rfl rfl (by decide) (fun _=>by simp[go_sem,execOp,Act.eval]) (fun _=>by simp[go_sem,execOp,Act.eval]) ?_
 walk_nrm
 refine co_region_end hZ hX ?_
 refine co_seq hZ hX ?_
 refine co_seq hZ hX ?_
 refine co_code hZ hX TT (by decide) (by kernel_rfl) (by kernel_rfl) fun K hK u hu=> ?_
 go_wp2_with fail
 refine hK.out _ _ (co_same hu ?_)
 clear hK K hu u
 refine co_cond (t:=false) hZ hX (by simp[Act.eval]) ?_
 simp only[Bool.false_eq_true,↓reduceIte]
 refine co_skip hZ hX ?_
 obtain⟨k,hk⟩:∃k:Nat,((tk:Int)%300)=(k:Int):=⟨tk%300,by omega⟩
 have hk300:k<300:=by omega
 refine co_seq hZ hX ?_
 refine co_code hZ hX TT (by decide) (by kernel_rfl) (by kernel_rfl) fun K hK u hu=> ?_
 have hmk:∀w,(Instr.makeSlice 69 (.int .i64 (k:Int)) (.int .i64 (k:Int))).run Try.prog w=.ok (.slice (some ⟨w.heap.size,0,none⟩) k k) (w.alloc (.cells (madeCells zeroT (k*7)) 35)):=fun w=>mk_tk k (by omega) w
 have hz0:u.heap.size=v3.heap.size:=by rw[hu.heap]
 go_wp2_with fail
 refine hK.out _ _ (co_same (hu.alloc _) ?_)
 clear hK K hu hmk hz0 u
 have hown:=own_tk0 v3 k (by omega)
 have C3:=Hd.mk (C2.out.trans (Chg.alloc (fun _=>False) v3 (.cells (madeCells zeroT (k*7)) 35)) (fun _ _=>id))
 generalize v3.alloc (.cells (madeCells zeroT (k*7)) 35)=v4 at hown C3⊢
 generalize v3.heap.size=q4 at hown⊢
 have hO:=Hd.mk hown
 clear hown C2 hk htk
 have hlen:(List.replicate k tk0).length=k:=by simp
 have LV:True:=trivial
 refine co_seq hZ hX ?_
 refine c_region (n:=0) (J:=fun _ a=>Co Try.prog Z 0 (g.fx Try.prog κL 0) a v4) (Co.calmly hZ hX) [0,1,2,3,4,5,6,7,8,9] rfl ?_
 refine co_value hZ hX (.agg #[]) rfl rfl (by decide) (fun _=>by simp[go_sem,execOp,Act.eval]) (fun _=>by simp[go_sem,execOp,Act.eval]) ?_
 walk_nrm
 refine co_op hZ hX TT.toTable (by decide) (R:=fun y u=>y=.iface 71 (.agg #[])∧Same u v4) rfl rfl (by kernel_rfl) (fun u hu=>⟨.iface 71 (.agg #[]),u, ?_,rfl,hu⟩) (fun y u hh=> ?_)
 ·first|(simp[go_sem,execOp,Act.eval];done)|kernel_rfl
 obtain⟨rfl,hu⟩:=hh
 refine co_same hu ?_
 clear hu u
 walk_nrm
 refine co_value hZ hX (.slice (some ⟨q4,0,none⟩) k k) rfl rfl (by decide) (fun _=>by simp[go_sem,execOp,Act.eval]) (fun _=>by simp[go_sem,execOp,Act.eval]) ?_
 walk_nrm
 refine co_value hZ hX (.int .i64 n) rfl rfl (by decide) (fun _=>by simp[go_sem,execOp,Act.eval]) (fun _=>by simp[go_sem,execOp,Act.eval]) ?_
 walk_nrm
 refine co_call2 hZ hX rfl rfl (by decide) rfl Try.func21 (by kernel_rfl) (by kernel_rfl) (vals:=#[.iface 71 (.agg #[]),.slice (some ⟨q4,0,none⟩) k k,.int .i64 n]) (by simp[Act.eval]) ?_
 obtain⟨z,hz⟩:∃z,newE k n=z:=⟨_,rfl⟩
 have hw:=Lib.hid (show z=if k=0∨200<k then 2 else(if n<0∨20000<n then 7 else 0:Int) from hz▸rfl)
 by_cases hne:newE k n=0
 ·obtain⟨hn1,hn2⟩:=newE_ok hne
  refine New_co (D:=D0) (x:=x0) (F:=fun _=>False) (l:=List.replicate k tk0) (most:=n) D0_ok hZ L hO.out.sl (by rw[hlen];exact hn1) hn2 (fun _=>id) (fun r hr=>by
   have:r.wait.obj=0:=begS_all (p:=fun r=>r.wait.obj=0) (fun _ _=>rfl) (List.replicate k tk0) (S0 n) (fun r hr=>by cases hr) r hr
   omega) _ _ fun e X' v5 hq=> ?_
  obtain⟨rfl,hA⟩:=hq
  have hop:(begS (S0 n) (List.replicate k tk0)).closed=false:=(begS_closed _ _).1
  have hal:(alI (begS (S0 n) (List.replicate k tk0))).length=k:=(alI_new n _ (by rw[hlen];exact hn1.2)).trans hlen
  generalize begS (S0 n) (List.replicate k tk0)=S at hA hop hal
  obtain⟨g5,bs5,M5,rfl,L5,c5,m5⟩:=hA.open D0_ok
  have hX5:=L5.ok
  have hz4:v.heap.size≤v4.heap.size:=C3.out.size
  have KP:Kp v.heap.size v v5:=((Kp.refl v).still C3.out).up c5 (fun j e=>e.elim False.elim (Nat.le_trans hz4))
  have hM5:∀j,M5 j→v.heap.size≤j:=fun j hj=>(m5 j hj).elim (fun e=>e.elim False.elim (Nat.le_trans hz4)) (Nat.le_trans hz4)
  clear hA c5 m5 hO C3 hn1 hn2
  generalize v4.heap.size=s at L5⊢
  rw[Frame.finish_at]
  walk_nrm
  refine co_value hZ hX5 (.tuple #[.pointer (some ⟨s,0,none⟩),.int .i64 0]) rfl rfl (by decide) (fun _=>by simp[go_sem,execOp,Act.eval]) (fun _=>by simp[go_sem,execOp,Act.eval]) ?_
  walk_nrm
  refine co_value hZ hX5 (.pointer (some ⟨s,0,none⟩)) rfl rfl (by decide) (fun _=>by simp[go_sem,execOp,Act.eval]) (fun _=>by simp[go_sem,execOp,Act.eval]) ?_
  walk_nrm
  refine co_value hZ hX5 (.int .i64 0) rfl rfl (by decide) (fun _=>by simp[go_sem,execOp,Act.eval]) (fun _=>by simp[go_sem,execOp,Act.eval]) ?_
  walk_nrm
  refine co_value hZ hX5 (.pointer (some ⟨s,0,none⟩)) rfl rfl (by decide) (fun _=>by simp[go_sem,execOp,Act.eval]) (fun _=>by simp[go_sem,execOp,Act.eval]) ?_
  walk_nrm
  refine co_value hZ hX5 (.int .i64 0) rfl rfl (by decide) (fun _=>by simp[go_sem,execOp,Act.eval]) (fun _=>by simp[go_sem,execOp,Act.eval]) ?_
  walk_nrm
  refine co_region_end hZ hX5 ?_
  refine co_seq hZ hX5 ?_
  refine co_code hZ hX5 TT (by decide) (by kernel_rfl) (by kernel_rfl) fun K hK u hu=> ?_
  go_wp2_with fail
  refine hK.out _ _ (co_same hu ?_)
  clear hK K hu u
  refine co_seq hZ hX5 ?_
  refine co_code hZ hX5 TT (by decide) (by kernel_rfl) (by kernel_rfl) fun K hK u hu=> ?_
  suffices hM:∀(j1 j2 j3 j5 j6 j7 j8 j9 j10 j11 j12 j13 j14 j15 j16 j17 j18 j19 j24 j25 j26 j27 j28 j29 j30 j31 j32 j33 j34 j35 j36 j37 j38 j39 j40 j41 j42 j43 j44 j45 j46 j47 j48 j49 j50 j51 j52 j53 j54 j55 j56 j57 j58 j59 j60 j61 j62 j63 j64 j65 j66 j67 j68 j69 j70 j71 j72 j73 j74 j75 j76 j77 j78 j79 j80 j81 j82 j83 j84 j85 j86 j87 j88 j89 j90 j91 j92 j93 j94 j95 j96 j97 j98 j99 j100 j101 j102 j103 j104 j105 j106 j107 j108 j109 j110 j111 j112 j113 j114 j115 j116 j117 j118 j119 j120 j121 j122 j123 j124 j125 j126 j127 j128 j129 j130 j131 j132 j133 j134 j135 j136 j137 j138 j139 j140 j141 j142 j143 j144 j145 j146 j147 j148 j149 j150 j151 j152 j153 j154 j155 j156 j157 j158 j159 j160 j161 j162 j163 j164 j165 j166 j167:Value),K #[.int .i64 n,j1,j2,j3,.bool false,j5,j6,j7,j8,j9,j10,j11,j12,j13,j14,j15,j16,j17,j18,j19,.pointer (some ⟨s,0,none⟩),.int .i64 0,.slice (some ⟨q4,0,none⟩) k k,.int .i64 (if n<0∨20000<n then 7 else 0:Int),j24,j25,j26,j27,j28,j29,j30,j31,j32,j33,j34,j35,j36,j37,j38,j39,j40,j41,j42,j43,j44,j45,j46,j47,j48,j49,j50,j51,j52,j53,j54,j55,j56,j57,j58,j59,j60,j61,j62,j63,j64,j65,j66,j67,j68,j69,j70,j71,j72,j73,j74,j75,j76,j77,j78,j79,j80,j81,j82,j83,j84,j85,j86,j87,j88,j89,j90,j91,j92,j93,j94,j95,j96,j97,j98,j99,j100,j101,j102,j103,j104,j105,j106,j107,j108,j109,j110,j111,j112,j113,j114,j115,j116,j117,j118,j119,j120,j121,j122,j123,j124,j125,j126,j127,j128,j129,j130,j131,j132,j133,j134,j135,j136,j137,j138,j139,j140,j141,j142,j143,j144,j145,j146,j147,j148,j149,j150,j151,j152,j153,j154,j155,j156,j157,j158,j159,j160,j161,j162,j163,j164,j165,j166,j167] u by
   by_cases h1:n<0
   ·rw[if_pos (.inl h1)] at hM
    go_wp2_with fail
    exact hM _ _ _ _ _ _ _ _ _ _ _ _ _ _ _ _ _ _ _ _ _ _ _ _ _ _ _ _ _ _ _ _ _ _ _ _ _ _ _ _ _ _ _ _ _ _ _ _ _ _ _ _ _ _ _ _ _ _ _ _ _ _ _ _ _ _ _ _ _ _ _ _ _ _ _ _ _ _ _ _ _ _ _ _ _ _ _ _ _ _ _ _ _ _ _ _ _ _ _ _ _ _ _ _ _ _ _ _ _ _ _ _ _ _ _ _ _ _ _ _ _ _ _ _ _ _ _ _ _ _ _ _ _ _ _ _ _ _ _ _ _ _ _ _ _ _ _ _ _ _ _ _ _ _ _ _ _ _ _ _ _ _
   ·by_cases h2:20000<n
    ·rw[if_pos (.inr h2)] at hM
     go_wp2_with fail
     exact hM _ _ _ _ _ _ _ _ _ _ _ _ _ _ _ _ _ _ _ _ _ _ _ _ _ _ _ _ _ _ _ _ _ _ _ _ _ _ _ _ _ _ _ _ _ _ _ _ _ _ _ _ _ _ _ _ _ _ _ _ _ _ _ _ _ _ _ _ _ _ _ _ _ _ _ _ _ _ _ _ _ _ _ _ _ _ _ _ _ _ _ _ _ _ _ _ _ _ _ _ _ _ _ _ _ _ _ _ _ _ _ _ _ _ _ _ _ _ _ _ _ _ _ _ _ _ _ _ _ _ _ _ _ _ _ _ _ _ _ _ _ _ _ _ _ _ _ _ _ _ _ _ _ _ _ _ _ _ _ _ _ _
    ·rw[if_neg (by omega)] at hM
     go_wp2_with fail
     exact hM _ _ _ _ _ _ _ _ _ _ _ _ _ _ _ _ _ _ _ _ _ _ _ _ _ _ _ _ _ _ _ _ _ _ _ _ _ _ _ _ _ _ _ _ _ _ _ _ _ _ _ _ _ _ _ _ _ _ _ _ _ _ _ _ _ _ _ _ _ _ _ _ _ _ _ _ _ _ _ _ _ _ _ _ _ _ _ _ _ _ _ _ _ _ _ _ _ _ _ _ _ _ _ _ _ _ _ _ _ _ _ _ _ _ _ _ _ _ _ _ _ _ _ _ _ _ _ _ _ _ _ _ _ _ _ _ _ _ _ _ _ _ _ _ _ _ _ _ _ _ _ _ _ _ _ _ _ _ _ _ _ _
  intro j1 j2 j3 j5 j6 j7 j8 j9 j10 j11 j12 j13 j14 j15 j16 j17 j18 j19 j24 j25 j26 j27 j28 j29 j30 j31 j32 j33 j34 j35 j36 j37 j38 j39 j40 j41 j42 j43 j44 j45 j46 j47 j48 j49 j50 j51 j52 j53 j54 j55 j56 j57 j58 j59 j60 j61 j62 j63 j64 j65 j66 j67 j68 j69 j70 j71 j72 j73 j74 j75 j76 j77 j78 j79 j80 j81 j82 j83 j84 j85 j86 j87 j88 j89 j90 j91 j92 j93 j94 j95 j96 j97 j98 j99 j100 j101 j102 j103 j104 j105 j106 j107 j108 j109 j110 j111 j112 j113 j114 j115 j116 j117 j118 j119 j120 j121 j122 j123 j124 j125 j126 j127 j128 j129 j130 j131 j132 j133 j134 j135 j136 j137 j138 j139 j140 j141 j142 j143 j144 j145 j146 j147 j148 j149 j150 j151 j152 j153 j154 j155 j156 j157 j158 j159 j160 j161 j162 j163 j164 j165 j166 j167
  refine hK.out _ _ (co_same hu ?_)
  clear hK K hu u
  refine co_seq hZ hX5 ?_
  refine co_code hZ hX5 TT (by decide) (by kernel_rfl) (by kernel_rfl) fun K hK u hu=> ?_
  suffices hM:∀(j1 j2 j3 j5 j6 j7 j8 j9 j10 j11 j12 j13 j14 j15 j16 j17 j18 j19 j24 j25 j26 j27 j28 j29 j30 j31 j32 j33 j34 j35 j36 j37 j38 j39 j40 j41 j42 j43 j44 j45 j46 j47 j48 j49 j50 j51 j52 j53 j54 j55 j56 j57 j58 j59 j60 j61 j62 j63 j64 j65 j66 j67 j68 j69 j70 j71 j72 j73 j74 j75 j76 j77 j78 j79 j80 j81 j82 j83 j84 j85 j86 j87 j88 j89 j90 j91 j92 j93 j94 j95 j96 j97 j98 j99 j100 j101 j102 j103 j104 j105 j106 j107 j108 j109 j110 j111 j112 j113 j114 j115 j116 j117 j118 j119 j120 j121 j122 j123 j124 j125 j126 j127 j128 j129 j130 j131 j132 j133 j134 j135 j136 j137 j138 j139 j140 j141 j142 j143 j144 j145 j146 j147 j148 j149 j150 j151 j152 j153 j154 j155 j156 j157 j158 j159 j160 j161 j162 j163 j164 j165 j166 j167:Value),K #[.int .i64 n,j1,j2,j3,.bool false,j5,j6,j7,j8,j9,j10,j11,j12,j13,j14,j15,j16,j17,j18,j19,.pointer (some ⟨s,0,none⟩),.int .i64 0,.slice (some ⟨q4,0,none⟩) k k,.int .i64 z,j24,j25,j26,j27,j28,j29,j30,j31,j32,j33,j34,j35,j36,j37,j38,j39,j40,j41,j42,j43,j44,j45,j46,j47,j48,j49,j50,j51,j52,j53,j54,j55,j56,j57,j58,j59,j60,j61,j62,j63,j64,j65,j66,j67,j68,j69,j70,j71,j72,j73,j74,j75,j76,j77,j78,j79,j80,j81,j82,j83,j84,j85,j86,j87,j88,j89,j90,j91,j92,j93,j94,j95,j96,j97,j98,j99,j100,j101,j102,j103,j104,j105,j106,j107,j108,j109,j110,j111,j112,j113,j114,j115,j116,j117,j118,j119,j120,j121,j122,j123,j124,j125,j126,j127,j128,j129,j130,j131,j132,j133,j134,j135,j136,j137,j138,j139,j140,j141,j142,j143,j144,j145,j146,j147,j148,j149,j150,j151,j152,j153,j154,j155,j156,j157,j158,j159,j160,j161,j162,j163,j164,j165,j166,j167] u by
   have hz2:=hw.out
   clear hw
   generalize(if n<0∨20000<n then 7 else 0:Int)=w1 at hz2⊢
   by_cases h1:k=0
   ·rw[if_pos (.inl h1)] at hz2
    subst h1
    subst hz2
    go_wp2_with fail
    exact hM _ _ _ _ _ _ _ _ _ _ _ _ _ _ _ _ _ _ _ _ _ _ _ _ _ _ _ _ _ _ _ _ _ _ _ _ _ _ _ _ _ _ _ _ _ _ _ _ _ _ _ _ _ _ _ _ _ _ _ _ _ _ _ _ _ _ _ _ _ _ _ _ _ _ _ _ _ _ _ _ _ _ _ _ _ _ _ _ _ _ _ _ _ _ _ _ _ _ _ _ _ _ _ _ _ _ _ _ _ _ _ _ _ _ _ _ _ _ _ _ _ _ _ _ _ _ _ _ _ _ _ _ _ _ _ _ _ _ _ _ _ _ _ _ _ _ _ _ _ _ _ _ _ _ _ _ _ _ _ _ _ _
   ·have h1':0<k:=by omega
    by_cases h2:200<k
    ·rw[if_pos (.inr h2)] at hz2
     subst hz2
     have h2':(200:Int)<(k:Int):=by omega
     go_wp2_with fail
     exact hM _ _ _ _ _ _ _ _ _ _ _ _ _ _ _ _ _ _ _ _ _ _ _ _ _ _ _ _ _ _ _ _ _ _ _ _ _ _ _ _ _ _ _ _ _ _ _ _ _ _ _ _ _ _ _ _ _ _ _ _ _ _ _ _ _ _ _ _ _ _ _ _ _ _ _ _ _ _ _ _ _ _ _ _ _ _ _ _ _ _ _ _ _ _ _ _ _ _ _ _ _ _ _ _ _ _ _ _ _ _ _ _ _ _ _ _ _ _ _ _ _ _ _ _ _ _ _ _ _ _ _ _ _ _ _ _ _ _ _ _ _ _ _ _ _ _ _ _ _ _ _ _ _ _ _ _ _ _ _ _ _ _
    ·rw[if_neg (by omega)] at hz2
     subst hz2
     have h2':¬(200:Int)<(k:Int):=by omega
     go_wp2_with fail
     exact hM _ _ _ _ _ _ _ _ _ _ _ _ _ _ _ _ _ _ _ _ _ _ _ _ _ _ _ _ _ _ _ _ _ _ _ _ _ _ _ _ _ _ _ _ _ _ _ _ _ _ _ _ _ _ _ _ _ _ _ _ _ _ _ _ _ _ _ _ _ _ _ _ _ _ _ _ _ _ _ _ _ _ _ _ _ _ _ _ _ _ _ _ _ _ _ _ _ _ _ _ _ _ _ _ _ _ _ _ _ _ _ _ _ _ _ _ _ _ _ _ _ _ _ _ _ _ _ _ _ _ _ _ _ _ _ _ _ _ _ _ _ _ _ _ _ _ _ _ _ _ _ _ _ _ _ _ _ _ _ _ _ _
  intro j1 j2 j3 j5 j6 j7 j8 j9 j10 j11 j12 j13 j14 j15 j16 j17 j18 j19 j24 j25 j26 j27 j28 j29 j30 j31 j32 j33 j34 j35 j36 j37 j38 j39 j40 j41 j42 j43 j44 j45 j46 j47 j48 j49 j50 j51 j52 j53 j54 j55 j56 j57 j58 j59 j60 j61 j62 j63 j64 j65 j66 j67 j68 j69 j70 j71 j72 j73 j74 j75 j76 j77 j78 j79 j80 j81 j82 j83 j84 j85 j86 j87 j88 j89 j90 j91 j92 j93 j94 j95 j96 j97 j98 j99 j100 j101 j102 j103 j104 j105 j106 j107 j108 j109 j110 j111 j112 j113 j114 j115 j116 j117 j118 j119 j120 j121 j122 j123 j124 j125 j126 j127 j128 j129 j130 j131 j132 j133 j134 j135 j136 j137 j138 j139 j140 j141 j142 j143 j144 j145 j146 j147 j148 j149 j150 j151 j152 j153 j154 j155 j156 j157 j158 j159 j160 j161 j162 j163 j164 j165 j166 j167
  refine hK.out _ _ (co_same hu ?_)
  clear hK K hu hw u
  obtain rfl:z=0:=hz.symm.trans hne
  clear hz
  refine co_seq hZ hX5 ?_
  refine co_seq hZ hX5 ?_
  refine co_code hZ hX5 TT (by decide) (by kernel_rfl) (by kernel_rfl) fun K hK u hu=> ?_
  go_wp2_with fail
  refine hK.out _ _ (co_same hu ?_)
  clear hK K hu u
  refine co_cond (t:=false) hZ hX5 (by simp[Act.eval]) ?_
  simp only[Bool.false_eq_true,↓reduceIte]
  refine co_skip hZ hX5 ?_
  refine co_seq hZ hX5 ?_
  refine co_seq hZ hX5 ?_
  refine co_code hZ hX5 TT (by decide) (by kernel_rfl) (by kernel_rfl) fun K hK u hu=> ?_
  go_wp2_with fail
  refine hK.out _ _ (co_same hu ?_)
  clear hK K hu u
  refine co_cond (t:=true) hZ hX5 (by simp[Act.eval]) ?_
  simp only[↓reduceIte]
  refine co_seq hZ hX5 ?_
  refine c_region (n:=0) (J:=fun _ a=>Co Try.prog Z 0 (g5.fx Try.prog κL 0) a v5) (Co.calmly hZ hX5) [0,1,2,3,4,5,6] rfl ?_
  refine co_value hZ hX5 (.pointer (some ⟨s,0,none⟩)) rfl rfl (by decide) (fun _=>by simp[go_sem,execOp,Act.eval]) (fun _=>by simp[go_sem,execOp,Act.eval]) ?_
  walk_nrm
  refine co_call2 hZ hX5 rfl rfl (by decide) rfl Try.func15 (by kernel_rfl) (by kernel_rfl) (vals:=#[.pointer (some ⟨s,0,none⟩)]) (by simp[Act.eval]) ?_
  refine Close_co D0_ok hZ L5.sch hop _ _ fun e X3 v6 hq=> ?_
  obtain⟨rfl,g3,rfl,L3,_,c3⟩:=hq
  have KP:=KP.up c3 hM5
  have hX3:=L3.ok.fx κL_ok
  rw[hal]
  rw[Frame.finish_at]
  walk_nrm
  refine co_value hZ hX3 (.tuple #[.int .i64 (k:Int),.int .i64 0]) rfl rfl (by decide) (fun _=>by simp[go_sem,execOp,Act.eval]) (fun _=>by simp[go_sem,execOp,Act.eval]) ?_
  walk_nrm
  refine co_value hZ hX3 (.int .i64 (k:Int)) rfl rfl (by decide) (fun _=>by simp[go_sem,execOp,Act.eval]) (fun _=>by simp[go_sem,execOp,Act.eval]) ?_
  walk_nrm
  refine co_value hZ hX3 (.int .i64 0) rfl rfl (by decide) (fun _=>by simp[go_sem,execOp,Act.eval]) (fun _=>by simp[go_sem,execOp,Act.eval]) ?_
  walk_nrm
  refine co_value hZ hX3 (.int .i64 (k:Int)) rfl rfl (by decide) (fun _=>by simp[go_sem,execOp,Act.eval]) (fun _=>by simp[go_sem,execOp,Act.eval]) ?_
  walk_nrm
  refine co_value hZ hX3 (.int .i64 0) rfl rfl (by decide) (fun _=>by simp[go_sem,execOp,Act.eval]) (fun _=>by simp[go_sem,execOp,Act.eval]) ?_
  walk_nrm
  refine co_region_end hZ hX3 ?_
  refine co_seq hZ hX3 ?_
  refine c_region (n:=0) (J:=fun _ a=>Co Try.prog Z 0 (g3.fx Try.prog κL 0) a v6) (Co.calmly hZ hX3) [0,1,2,3,4,5,6,7,8,9,10,11] rfl ?_
  refine co_value hZ hX3 (.int .i64 0) rfl rfl (by decide) (fun _=>by simp[go_sem,execOp,Act.eval]) (fun _=>by simp[go_sem,execOp,Act.eval]) ?_
  walk_nrm
  refine co_value hZ hX3 (.bool true) rfl rfl (by decide) (fun _=>by simp[go_sem,execOp,Act.eval]) (fun _=>by simp[go_sem,execOp,Act.eval]) ?_
  walk_nrm
  refine co_value hZ hX3 (.bool true) rfl rfl (by decide) (fun _=>by simp[go_sem,execOp,Act.eval]) (fun _=>by simp[go_sem,execOp,Act.eval]) ?_
  walk_nrm
  refine co_value hZ hX3 (.int .i64 (k:Int)) rfl rfl (by decide) (fun _=>by simp[go_sem,execOp,Act.eval]) (fun _=>by simp[go_sem,execOp,Act.eval]) ?_
  walk_nrm
  refine co_value hZ hX3 (.slice (some ⟨q4,0,none⟩) k k) rfl rfl (by decide) (fun _=>by simp[go_sem,execOp,Act.eval]) (fun _=>by simp[go_sem,execOp,Act.eval]) ?_
  walk_nrm
  refine co_op hZ hX3 TT.toTable (by decide) (R:=fun y u=>y=.int .i64 (k:Int)∧Same u v6) rfl rfl (by kernel_rfl) (fun u hu=>⟨.int .i64 (k:Int),u, ?_,rfl,hu⟩) (fun y u hh=> ?_)
  ·simp[go_sem,execOp,Act.eval]
  obtain⟨rfl,hu⟩:=hh
  refine co_same hu ?_
  clear hu u
  walk_nrm
  refine co_value hZ hX3 (.bool true) rfl rfl (by decide) (fun _=>by simp[go_sem,execOp,Act.eval]) (fun _=>by simp[go_sem,execOp,Act.eval]) ?_
  walk_nrm
  refine co_value hZ hX3 (.bool true) rfl rfl (by decide) (fun _=>by simp[go_sem,execOp,Act.eval]) (fun _=>by simp[go_sem,execOp,Act.eval]) ?_
  walk_nrm
  refine co_value hZ hX3 (.bool true) rfl rfl (by decide) (fun _=>by simp[go_sem,execOp,Act.eval]) (fun _=>by simp[go_sem,execOp,Act.eval]) ?_
  walk_nrm
  refine co_call2 hZ hX3 rfl rfl (by decide) rfl Try.func11 (by kernel_rfl) (by kernel_rfl) (vals:=#[]) (by simp[Act.eval]) ?_
  refine awake_co hZ L3 _ _ fun e X9 v9 hq9=> ?_
  obtain⟨rfl,⟨g9,rfl,L9⟩,c9⟩:=hq9
  have hX9:=L9.ok.fx κL_ok
  rw[Frame.finish_at]
  walk_nrm
  refine co_value hZ hX9 (.bool true) rfl rfl (by decide) (fun _=>by simp[go_sem,execOp,Act.eval]) (fun _=>by simp[go_sem,execOp,Act.eval]) ?_
  walk_nrm
  refine co_value hZ hX9 (.bool true) rfl rfl (by decide) (fun _=>by simp[go_sem,execOp,Act.eval]) (fun _=>by simp[go_sem,execOp,Act.eval]) ?_
  walk_nrm
  refine co_region_end hZ hX9 ?_
  refine co_ret hZ hX9 ?_
  exact fin_leave hF L9 (KP.still c9).out rfl rfl Try.func5 (fun w=>by simp[results,Try.results5,go_sem]) (fun w=>by simp[results,Try.results5,go_sem]) (by kernel_rfl)
 ·refine new_err_co (o:=none) hZ hX hO.out.sl (by rw[hlen];exact hne) _ _ fun e X' v5 hq=> ?_
  obtain⟨rfl,rfl,rfl⟩:=hq
  rw[hlen,hz]
  rw[hz] at hne
  clear hO hz
  rw[Frame.finish_at]
  walk_nrm
  refine co_value hZ hX (.tuple #[.pointer none,.int .i64 z]) rfl rfl (by decide) (fun _=>by simp[go_sem,execOp,Act.eval]) (fun _=>by simp[go_sem,execOp,Act.eval]) ?_
  walk_nrm
  refine co_value hZ hX (.pointer none) rfl rfl (by decide) (fun _=>by simp[go_sem,execOp,Act.eval]) (fun _=>by simp[go_sem,execOp,Act.eval]) ?_
  walk_nrm
  refine co_value hZ hX (.int .i64 z) rfl rfl (by decide) (fun _=>by simp[go_sem,execOp,Act.eval]) (fun _=>by simp[go_sem,execOp,Act.eval]) ?_
  walk_nrm
  refine co_value hZ hX (.pointer none) rfl rfl (by decide) (fun _=>by simp[go_sem,execOp,Act.eval]) (fun _=>by simp[go_sem,execOp,Act.eval]) ?_
  walk_nrm
  refine co_value hZ hX (.int .i64 z) rfl rfl (by decide) (fun _=>by simp[go_sem,execOp,Act.eval]) (fun _=>by simp[go_sem,execOp,Act.eval]) ?_
  walk_nrm
  refine co_region_end hZ hX ?_
  refine co_seq hZ hX ?_
  refine co_code hZ hX TT (by decide) (by kernel_rfl) (by kernel_rfl) fun K hK u hu=> ?_
  go_wp2_with fail
  refine hK.out _ _ (co_same hu ?_)
  clear hK K hu u
  refine co_seq hZ hX ?_
  refine co_code hZ hX TT (by decide) (by kernel_rfl) (by kernel_rfl) fun K hK u hu=> ?_
  suffices hM:∀(j1 j2 j3 j5 j6 j7 j8 j9 j10 j11 j12 j13 j14 j15 j16 j17 j18 j19 j24 j25 j26 j27 j28 j29 j30 j31 j32 j33 j34 j35 j36 j37 j38 j39 j40 j41 j42 j43 j44 j45 j46 j47 j48 j49 j50 j51 j52 j53 j54 j55 j56 j57 j58 j59 j60 j61 j62 j63 j64 j65 j66 j67 j68 j69 j70 j71 j72 j73 j74 j75 j76 j77 j78 j79 j80 j81 j82 j83 j84 j85 j86 j87 j88 j89 j90 j91 j92 j93 j94 j95 j96 j97 j98 j99 j100 j101 j102 j103 j104 j105 j106 j107 j108 j109 j110 j111 j112 j113 j114 j115 j116 j117 j118 j119 j120 j121 j122 j123 j124 j125 j126 j127 j128 j129 j130 j131 j132 j133 j134 j135 j136 j137 j138 j139 j140 j141 j142 j143 j144 j145 j146 j147 j148 j149 j150 j151 j152 j153 j154 j155 j156 j157 j158 j159 j160 j161 j162 j163 j164 j165 j166 j167:Value),K #[.int .i64 n,j1,j2,j3,.bool false,j5,j6,j7,j8,j9,j10,j11,j12,j13,j14,j15,j16,j17,j18,j19,.pointer none,.int .i64 z,.slice (some ⟨q4,0,none⟩) k k,.int .i64 (if n<0∨20000<n then 7 else 0:Int),j24,j25,j26,j27,j28,j29,j30,j31,j32,j33,j34,j35,j36,j37,j38,j39,j40,j41,j42,j43,j44,j45,j46,j47,j48,j49,j50,j51,j52,j53,j54,j55,j56,j57,j58,j59,j60,j61,j62,j63,j64,j65,j66,j67,j68,j69,j70,j71,j72,j73,j74,j75,j76,j77,j78,j79,j80,j81,j82,j83,j84,j85,j86,j87,j88,j89,j90,j91,j92,j93,j94,j95,j96,j97,j98,j99,j100,j101,j102,j103,j104,j105,j106,j107,j108,j109,j110,j111,j112,j113,j114,j115,j116,j117,j118,j119,j120,j121,j122,j123,j124,j125,j126,j127,j128,j129,j130,j131,j132,j133,j134,j135,j136,j137,j138,j139,j140,j141,j142,j143,j144,j145,j146,j147,j148,j149,j150,j151,j152,j153,j154,j155,j156,j157,j158,j159,j160,j161,j162,j163,j164,j165,j166,j167] u by
   by_cases h1:n<0
   ·rw[if_pos (.inl h1)] at hM
    go_wp2_with fail
    exact hM _ _ _ _ _ _ _ _ _ _ _ _ _ _ _ _ _ _ _ _ _ _ _ _ _ _ _ _ _ _ _ _ _ _ _ _ _ _ _ _ _ _ _ _ _ _ _ _ _ _ _ _ _ _ _ _ _ _ _ _ _ _ _ _ _ _ _ _ _ _ _ _ _ _ _ _ _ _ _ _ _ _ _ _ _ _ _ _ _ _ _ _ _ _ _ _ _ _ _ _ _ _ _ _ _ _ _ _ _ _ _ _ _ _ _ _ _ _ _ _ _ _ _ _ _ _ _ _ _ _ _ _ _ _ _ _ _ _ _ _ _ _ _ _ _ _ _ _ _ _ _ _ _ _ _ _ _ _ _ _ _ _
   ·by_cases h2:20000<n
    ·rw[if_pos (.inr h2)] at hM
     go_wp2_with fail
     exact hM _ _ _ _ _ _ _ _ _ _ _ _ _ _ _ _ _ _ _ _ _ _ _ _ _ _ _ _ _ _ _ _ _ _ _ _ _ _ _ _ _ _ _ _ _ _ _ _ _ _ _ _ _ _ _ _ _ _ _ _ _ _ _ _ _ _ _ _ _ _ _ _ _ _ _ _ _ _ _ _ _ _ _ _ _ _ _ _ _ _ _ _ _ _ _ _ _ _ _ _ _ _ _ _ _ _ _ _ _ _ _ _ _ _ _ _ _ _ _ _ _ _ _ _ _ _ _ _ _ _ _ _ _ _ _ _ _ _ _ _ _ _ _ _ _ _ _ _ _ _ _ _ _ _ _ _ _ _ _ _ _ _
    ·rw[if_neg (by omega)] at hM
     go_wp2_with fail
     exact hM _ _ _ _ _ _ _ _ _ _ _ _ _ _ _ _ _ _ _ _ _ _ _ _ _ _ _ _ _ _ _ _ _ _ _ _ _ _ _ _ _ _ _ _ _ _ _ _ _ _ _ _ _ _ _ _ _ _ _ _ _ _ _ _ _ _ _ _ _ _ _ _ _ _ _ _ _ _ _ _ _ _ _ _ _ _ _ _ _ _ _ _ _ _ _ _ _ _ _ _ _ _ _ _ _ _ _ _ _ _ _ _ _ _ _ _ _ _ _ _ _ _ _ _ _ _ _ _ _ _ _ _ _ _ _ _ _ _ _ _ _ _ _ _ _ _ _ _ _ _ _ _ _ _ _ _ _ _ _ _ _ _
  intro j1 j2 j3 j5 j6 j7 j8 j9 j10 j11 j12 j13 j14 j15 j16 j17 j18 j19 j24 j25 j26 j27 j28 j29 j30 j31 j32 j33 j34 j35 j36 j37 j38 j39 j40 j41 j42 j43 j44 j45 j46 j47 j48 j49 j50 j51 j52 j53 j54 j55 j56 j57 j58 j59 j60 j61 j62 j63 j64 j65 j66 j67 j68 j69 j70 j71 j72 j73 j74 j75 j76 j77 j78 j79 j80 j81 j82 j83 j84 j85 j86 j87 j88 j89 j90 j91 j92 j93 j94 j95 j96 j97 j98 j99 j100 j101 j102 j103 j104 j105 j106 j107 j108 j109 j110 j111 j112 j113 j114 j115 j116 j117 j118 j119 j120 j121 j122 j123 j124 j125 j126 j127 j128 j129 j130 j131 j132 j133 j134 j135 j136 j137 j138 j139 j140 j141 j142 j143 j144 j145 j146 j147 j148 j149 j150 j151 j152 j153 j154 j155 j156 j157 j158 j159 j160 j161 j162 j163 j164 j165 j166 j167
  refine hK.out _ _ (co_same hu ?_)
  clear hK K hu u
  refine co_seq hZ hX ?_
  refine co_code hZ hX TT (by decide) (by kernel_rfl) (by kernel_rfl) fun K hK u hu=> ?_
  suffices hM:∀(j1 j2 j3 j5 j6 j7 j8 j9 j10 j11 j12 j13 j14 j15 j16 j17 j18 j19 j24 j25 j26 j27 j28 j29 j30 j31 j32 j33 j34 j35 j36 j37 j38 j39 j40 j41 j42 j43 j44 j45 j46 j47 j48 j49 j50 j51 j52 j53 j54 j55 j56 j57 j58 j59 j60 j61 j62 j63 j64 j65 j66 j67 j68 j69 j70 j71 j72 j73 j74 j75 j76 j77 j78 j79 j80 j81 j82 j83 j84 j85 j86 j87 j88 j89 j90 j91 j92 j93 j94 j95 j96 j97 j98 j99 j100 j101 j102 j103 j104 j105 j106 j107 j108 j109 j110 j111 j112 j113 j114 j115 j116 j117 j118 j119 j120 j121 j122 j123 j124 j125 j126 j127 j128 j129 j130 j131 j132 j133 j134 j135 j136 j137 j138 j139 j140 j141 j142 j143 j144 j145 j146 j147 j148 j149 j150 j151 j152 j153 j154 j155 j156 j157 j158 j159 j160 j161 j162 j163 j164 j165 j166 j167:Value),K #[.int .i64 n,j1,j2,j3,.bool false,j5,j6,j7,j8,j9,j10,j11,j12,j13,j14,j15,j16,j17,j18,j19,.pointer none,.int .i64 z,.slice (some ⟨q4,0,none⟩) k k,.int .i64 z,j24,j25,j26,j27,j28,j29,j30,j31,j32,j33,j34,j35,j36,j37,j38,j39,j40,j41,j42,j43,j44,j45,j46,j47,j48,j49,j50,j51,j52,j53,j54,j55,j56,j57,j58,j59,j60,j61,j62,j63,j64,j65,j66,j67,j68,j69,j70,j71,j72,j73,j74,j75,j76,j77,j78,j79,j80,j81,j82,j83,j84,j85,j86,j87,j88,j89,j90,j91,j92,j93,j94,j95,j96,j97,j98,j99,j100,j101,j102,j103,j104,j105,j106,j107,j108,j109,j110,j111,j112,j113,j114,j115,j116,j117,j118,j119,j120,j121,j122,j123,j124,j125,j126,j127,j128,j129,j130,j131,j132,j133,j134,j135,j136,j137,j138,j139,j140,j141,j142,j143,j144,j145,j146,j147,j148,j149,j150,j151,j152,j153,j154,j155,j156,j157,j158,j159,j160,j161,j162,j163,j164,j165,j166,j167] u by
   have hz2:=hw.out
   clear hw
   generalize(if n<0∨20000<n then 7 else 0:Int)=w1 at hz2⊢
   by_cases h1:k=0
   ·rw[if_pos (.inl h1)] at hz2
    subst h1
    subst hz2
    go_wp2_with fail
    exact hM _ _ _ _ _ _ _ _ _ _ _ _ _ _ _ _ _ _ _ _ _ _ _ _ _ _ _ _ _ _ _ _ _ _ _ _ _ _ _ _ _ _ _ _ _ _ _ _ _ _ _ _ _ _ _ _ _ _ _ _ _ _ _ _ _ _ _ _ _ _ _ _ _ _ _ _ _ _ _ _ _ _ _ _ _ _ _ _ _ _ _ _ _ _ _ _ _ _ _ _ _ _ _ _ _ _ _ _ _ _ _ _ _ _ _ _ _ _ _ _ _ _ _ _ _ _ _ _ _ _ _ _ _ _ _ _ _ _ _ _ _ _ _ _ _ _ _ _ _ _ _ _ _ _ _ _ _ _ _ _ _ _
   ·have h1':0<k:=by omega
    by_cases h2:200<k
    ·rw[if_pos (.inr h2)] at hz2
     subst hz2
     have h2':(200:Int)<(k:Int):=by omega
     go_wp2_with fail
     exact hM _ _ _ _ _ _ _ _ _ _ _ _ _ _ _ _ _ _ _ _ _ _ _ _ _ _ _ _ _ _ _ _ _ _ _ _ _ _ _ _ _ _ _ _ _ _ _ _ _ _ _ _ _ _ _ _ _ _ _ _ _ _ _ _ _ _ _ _ _ _ _ _ _ _ _ _ _ _ _ _ _ _ _ _ _ _ _ _ _ _ _ _ _ _ _ _ _ _ _ _ _ _ _ _ _ _ _ _ _ _ _ _ _ _ _ _ _ _ _ _ _ _ _ _ _ _ _ _ _ _ _ _ _ _ _ _ _ _ _ _ _ _ _ _ _ _ _ _ _ _ _ _ _ _ _ _ _ _ _ _ _ _
    ·rw[if_neg (by omega)] at hz2
     subst hz2
     have h2':¬(200:Int)<(k:Int):=by omega
     go_wp2_with fail
     exact hM _ _ _ _ _ _ _ _ _ _ _ _ _ _ _ _ _ _ _ _ _ _ _ _ _ _ _ _ _ _ _ _ _ _ _ _ _ _ _ _ _ _ _ _ _ _ _ _ _ _ _ _ _ _ _ _ _ _ _ _ _ _ _ _ _ _ _ _ _ _ _ _ _ _ _ _ _ _ _ _ _ _ _ _ _ _ _ _ _ _ _ _ _ _ _ _ _ _ _ _ _ _ _ _ _ _ _ _ _ _ _ _ _ _ _ _ _ _ _ _ _ _ _ _ _ _ _ _ _ _ _ _ _ _ _ _ _ _ _ _ _ _ _ _ _ _ _ _ _ _ _ _ _ _ _ _ _ _ _ _ _ _
  intro j1 j2 j3 j5 j6 j7 j8 j9 j10 j11 j12 j13 j14 j15 j16 j17 j18 j19 j24 j25 j26 j27 j28 j29 j30 j31 j32 j33 j34 j35 j36 j37 j38 j39 j40 j41 j42 j43 j44 j45 j46 j47 j48 j49 j50 j51 j52 j53 j54 j55 j56 j57 j58 j59 j60 j61 j62 j63 j64 j65 j66 j67 j68 j69 j70 j71 j72 j73 j74 j75 j76 j77 j78 j79 j80 j81 j82 j83 j84 j85 j86 j87 j88 j89 j90 j91 j92 j93 j94 j95 j96 j97 j98 j99 j100 j101 j102 j103 j104 j105 j106 j107 j108 j109 j110 j111 j112 j113 j114 j115 j116 j117 j118 j119 j120 j121 j122 j123 j124 j125 j126 j127 j128 j129 j130 j131 j132 j133 j134 j135 j136 j137 j138 j139 j140 j141 j142 j143 j144 j145 j146 j147 j148 j149 j150 j151 j152 j153 j154 j155 j156 j157 j158 j159 j160 j161 j162 j163 j164 j165 j166 j167
  refine hK.out _ _ (co_same hu ?_)
  clear hK K hu hw u
  refine co_seq hZ hX ?_
  refine co_seq hZ hX ?_
  refine co_code hZ hX TT (by decide) (by kernel_rfl) (by kernel_rfl) fun K hK u hu=> ?_
  go_wp2_with fail
  refine hK.out _ _ (co_same hu ?_)
  clear hK K hu u
  refine co_cond (t:=false) hZ hX (by simp[Act.eval]<;>exact hne) ?_
  simp only[Bool.false_eq_true,↓reduceIte]
  refine co_skip hZ hX ?_
  refine co_seq hZ hX ?_
  refine co_seq hZ hX ?_
  refine co_code hZ hX TT (by decide) (by kernel_rfl) (by kernel_rfl) fun K hK u hu=> ?_
  go_wp2_with fail
  refine hK.out _ _ (co_same hu ?_)
  clear hK K hu u
  refine co_cond (t:=false) hZ hX (by simp[Act.eval]<;>exact hne) ?_
  simp only[Bool.false_eq_true,↓reduceIte]
  refine co_skip hZ hX ?_
  refine co_seq hZ hX ?_
  refine c_region (n:=0) (J:=fun _ a=>Co Try.prog Z 0 (g.fx Try.prog κL 0) a v5) (Co.calmly hZ hX) [0,1] rfl ?_
  refine co_call2 hZ hX rfl rfl (by decide) rfl Try.func11 (by kernel_rfl) (by kernel_rfl) (vals:=#[]) (by simp[Act.eval]) ?_
  refine awake_co hZ L _ _ fun e X9 v9 hq9=> ?_
  obtain⟨rfl,⟨g9,rfl,L9⟩,c9⟩:=hq9
  have hX9:=L9.ok.fx κL_ok
  rw[Frame.finish_at]
  walk_nrm
  refine co_value hZ hX9 (.bool true) rfl rfl (by decide) (fun _=>by simp[go_sem,execOp,Act.eval]) (fun _=>by simp[go_sem,execOp,Act.eval]) ?_
  walk_nrm
  refine co_region_end hZ hX9 ?_
  refine co_ret hZ hX9 ?_
  exact fin_leave hF L9 (C3.out.trans c9 (fun _ _=>id)) rfl rfl Try.func5 (fun w=>by simp[results,Try.results5,go_sem]) (fun w=>by simp[results,Try.results5,go_sem]) (by kernel_rfl)
set_option maxRecDepth 100000 in
set_option maxHeartbeats 8000000 in
theorem none_loop {Z:Goal} {v:World} {n:Int} {tk:Nat} {g:Gh} {q6:Nat} (hZ:Z.Ok Try.prog) (hF:Fin Z v) (L:Lone g) (hn:Bd n) (htk:tk<65536):
 ∀(m i:Nat),i+m=2→∀{w:World},Chg (fun _=>False) v w→(∀j,j<2→∃sv,w.cell? ⟨q6,j,none⟩=some sv∧NoS sv w)→
 ∀(j2 j3 j5 j8 j9 j10 j11 j12 j13 j14 j15 j16 j17 j18 j19 j20 j21 j22 j23 j24 j25 j26 j27 j28 j29 j30 j31 j32 j33 j34 j35 j36 j37 j38 j39 j40 j41 j42 j43 j44 j45 j46 j47 j48 j49 j50 j51 j52 j53 j54 j55 j56 j57 j58 j59 j60 j61 j62 j63 j64 j65 j66 j67 j68 j69 j70 j71 j72 j73 j74 j75 j76 j77 j78 j79 j80 j81 j82 j83 j84 j85 j86 j87 j88 j89 j90 j91 j92 j93 j94 j95 j96 j97 j98 j99 j100 j101 j102 j103 j104 j105 j106 j107 j108 j109 j110 j111 j112 j113 j114 j115 j116 j117 j118 j119 j120 j121 j122 j123 j124 j125 j126 j127 j128 j129 j130 j131 j132 j133 j134 j135 j136 j137 j138 j139 j140 j141 j142 j143 j144 j145 j146 j147 j148 j149 j150 j151 j152 j153 j154 j155 j156 j157 j158 j159 j160 j161 j162 j163 j164 j165 j166 j167:Value),Co Try.prog Z 0 (g.fx Try.prog κL 0) (G ((Go.Conc.base 5).at ⟨#[.int .i64 n,.int .u16 (tk:Int),j2,j3,.bool false,j5,.pointer (some ⟨q6,0,none⟩),.int .i64 (i:Int),j8,j9,j10,j11,j12,j13,j14,j15,j16,j17,j18,j19,j20,j21,j22,j23,j24,j25,j26,j27,j28,j29,j30,j31,j32,j33,j34,j35,j36,j37,j38,j39,j40,j41,j42,j43,j44,j45,j46,j47,j48,j49,j50,j51,j52,j53,j54,j55,j56,j57,j58,j59,j60,j61,j62,j63,j64,j65,j66,j67,j68,j69,j70,j71,j72,j73,j74,j75,j76,j77,j78,j79,j80,j81,j82,j83,j84,j85,j86,j87,j88,j89,j90,j91,j92,j93,j94,j95,j96,j97,j98,j99,j100,j101,j102,j103,j104,j105,j106,j107,j108,j109,j110,j111,j112,j113,j114,j115,j116,j117,j118,j119,j120,j121,j122,j123,j124,j125,j126,j127,j128,j129,j130,j131,j132,j133,j134,j135,j136,j137,j138,j139,j140,j141,j142,j143,j144,j145,j146,j147,j148,j149,j150,j151,j152,j153,j154,j155,j156,j157,j158,j159,j160,j161,j162,j163,j164,j165,j166,j167],[]⟩ [.code lb5,.inLoop lb5,.inBlock 0,.code (sndC rest5)]) []) w:=by
 have hX:=L.ok.fx κL_ok
 intro m
 induction m with
 |zero=>
  intro i hi w c1 hl j2 j3 j5 j8 j9 j10 j11 j12 j13 j14 j15 j16 j17 j18 j19 j20 j21 j22 j23 j24 j25 j26 j27 j28 j29 j30 j31 j32 j33 j34 j35 j36 j37 j38 j39 j40 j41 j42 j43 j44 j45 j46 j47 j48 j49 j50 j51 j52 j53 j54 j55 j56 j57 j58 j59 j60 j61 j62 j63 j64 j65 j66 j67 j68 j69 j70 j71 j72 j73 j74 j75 j76 j77 j78 j79 j80 j81 j82 j83 j84 j85 j86 j87 j88 j89 j90 j91 j92 j93 j94 j95 j96 j97 j98 j99 j100 j101 j102 j103 j104 j105 j106 j107 j108 j109 j110 j111 j112 j113 j114 j115 j116 j117 j118 j119 j120 j121 j122 j123 j124 j125 j126 j127 j128 j129 j130 j131 j132 j133 j134 j135 j136 j137 j138 j139 j140 j141 j142 j143 j144 j145 j146 j147 j148 j149 j150 j151 j152 j153 j154 j155 j156 j157 j158 j159 j160 j161 j162 j163 j164 j165 j166 j167
  have hend:=Hd.mk (none_end hZ hF L hn htk c1)
  obtain rfl:i=2:=by omega
  simp only[lb5,rest5,body5,Try.f5,Option.getD_some,fstC,sndC,inC] at hend⊢
  refine co_seq hZ hX ?_
  refine co_seq hZ hX ?_
  refine co_code hZ hX TT (by decide) (by kernel_rfl) (by kernel_rfl) fun K hK u hu=> ?_
  go_wp2_with fail
  refine hK.out _ _ (co_same hu ?_)
  clear hK K hu u
  refine co_cond (t:=false) hZ hX (by simp[Act.eval]) ?_
  simp only[Bool.false_eq_true,↓reduceIte]
  refine co_exit hZ hX rfl ?_
  exact hend.out _ _ _ _ _ _ _ _ _ _ _ _ _ _ _ _ _ _ _ _ _ _ _ _ _ _ _ _ _ _ _ _ _ _ _ _ _ _ _ _ _ _ _ _ _ _ _ _ _ _ _ _ _ _ _ _ _ _ _ _ _ _ _ _ _ _ _ _ _ _ _ _ _ _ _ _ _ _ _ _ _ _ _ _ _ _ _ _ _ _ _ _ _ _ _ _ _ _ _ _ _ _ _ _ _ _ _ _ _ _ _ _ _ _ _ _ _ _ _ _ _ _ _ _ _ _ _ _ _ _ _ _ _ _ _ _ _ _ _ _ _ _ _ _ _ _ _ _ _ _ _ _ _ _ _ _ _ _ _ _ _ _ _ _ _
 |succ m ih=>
  intro i hi w c1 hl j2 j3 j5 j8 j9 j10 j11 j12 j13 j14 j15 j16 j17 j18 j19 j20 j21 j22 j23 j24 j25 j26 j27 j28 j29 j30 j31 j32 j33 j34 j35 j36 j37 j38 j39 j40 j41 j42 j43 j44 j45 j46 j47 j48 j49 j50 j51 j52 j53 j54 j55 j56 j57 j58 j59 j60 j61 j62 j63 j64 j65 j66 j67 j68 j69 j70 j71 j72 j73 j74 j75 j76 j77 j78 j79 j80 j81 j82 j83 j84 j85 j86 j87 j88 j89 j90 j91 j92 j93 j94 j95 j96 j97 j98 j99 j100 j101 j102 j103 j104 j105 j106 j107 j108 j109 j110 j111 j112 j113 j114 j115 j116 j117 j118 j119 j120 j121 j122 j123 j124 j125 j126 j127 j128 j129 j130 j131 j132 j133 j134 j135 j136 j137 j138 j139 j140 j141 j142 j143 j144 j145 j146 j147 j148 j149 j150 j151 j152 j153 j154 j155 j156 j157 j158 j159 j160 j161 j162 j163 j164 j165 j166 j167
  have IH:=Hd.mk ih
  clear ih
  have hi2:i<2:=by omega
  obtain⟨sv,hsv,hno⟩:=hl i hi2
  simp only[lb5,rest5,body5,Try.f5,Option.getD_some,fstC,sndC,inC] at IH⊢
  refine co_seq hZ hX ?_
  refine co_seq hZ hX ?_
  refine co_code hZ hX TT (by decide) (by kernel_rfl) (by kernel_rfl) fun K hK u hu=> ?_
  go_wp2_with fail
  refine hK.out _ _ (co_same hu ?_)
  clear hK K hu u
  refine co_cond (t:=true) hZ hX (by simp[Act.eval]<;>omega) ?_
  simp only[↓reduceIte]
  refine co_skip hZ hX ?_
  refine co_seq hZ hX ?_
  refine co_block hZ hX ?_
  refine co_seq hZ hX ?_
  refine c_region (n:=0) (J:=fun _ a=>Co Try.prog Z 0 (g.fx Try.prog κL 0) a w) (Co.calmly hZ hX) [0,1,2,3,4,5,6,7,8,9] rfl ?_
  refine co_value hZ hX (.int .i64 (i:Int)) rfl rfl (by decide) (fun _=>by simp[go_sem,execOp,Act.eval]) (fun _=>by simp[go_sem,execOp,Act.eval]) ?_
  walk_nrm
  refine co_op hZ hX TT.toTable (by decide) (R:=fun y u=>y=.pointer (some ⟨q6,i,none⟩)∧Same u w) rfl rfl (by kernel_rfl) (fun u hu=>⟨.pointer (some ⟨q6,i,none⟩),u, ?_,rfl,hu⟩) (fun y u hh=> ?_)
  ·simp[go_sem,execOp,Act.eval,show¬((2:Int)≤(i:Int)) by omega]
  obtain⟨rfl,hu⟩:=hh
  refine co_same hu ?_
  clear hu u
  walk_nrm
  refine co_op hZ hX TT.toTable (by decide) (R:=fun y u=>y=sv∧Same u w) rfl rfl (by kernel_rfl) (fun u hu=>⟨sv,u, ?_,rfl,hu⟩) (fun y u hh=> ?_)
  ·have hs:u.cell? ⟨q6,i,none⟩=some sv:=by unfold World.cell?;rw[hu.heap];exact hsv
   simp[go_sem,execOp,Act.eval,hs]
  obtain⟨hy,hu⟩:=hh;have hy:=hy.symm;subst hy
  refine co_same hu ?_
  clear hu u
  walk_nrm
  refine co_value hZ hX (.int .i64 n) rfl rfl (by decide) (fun _=>by simp[go_sem,execOp,Act.eval]) (fun _=>by simp[go_sem,execOp,Act.eval]) ?_
  walk_nrm
  refine co_call2 hZ hX rfl rfl (by decide) rfl Try.func18 (by kernel_rfl) (by kernel_rfl) (vals:=#[sv,.int .i64 n]) (by simp[Act.eval]) ?_
  refine Pick_no hZ hX hno _ _ fun e X' w1 hq=> ?_
  obtain⟨rfl,rfl,cc⟩:=hq
  have c1:=c1.trans cc (fun _ _=>id)
  have hsv:=cc.cell hsv id
  have hno:=hno.chg cc
  have hl:=fun j (hj:j<2)=>(show∃sv,w1.cell? ⟨q6,j,none⟩=some sv∧NoS sv w1 from let⟨sv,h1,h2⟩:=hl j hj;⟨sv,cc.cell h1 id,h2.chg cc⟩)
  clear cc
  rw[Frame.finish_at]
  walk_nrm
  refine co_value hZ hX (.tuple #[.int .i64 0,.int .i64 1]) rfl rfl (by decide) (fun _=>by simp[go_sem,execOp,Act.eval]) (fun _=>by simp[go_sem,execOp,Act.eval]) ?_
  walk_nrm
  refine co_value hZ hX (.int .i64 0) rfl rfl (by decide) (fun _=>by simp[go_sem,execOp,Act.eval]) (fun _=>by simp[go_sem,execOp,Act.eval]) ?_
  walk_nrm
  refine co_value hZ hX (.int .i64 1) rfl rfl (by decide) (fun _=>by simp[go_sem,execOp,Act.eval]) (fun _=>by simp[go_sem,execOp,Act.eval]) ?_
  walk_nrm
  refine co_value hZ hX (.int .i64 0) rfl rfl (by decide) (fun _=>by simp[go_sem,execOp,Act.eval]) (fun _=>by simp[go_sem,execOp,Act.eval]) ?_
  walk_nrm
  refine co_value hZ hX (.int .i64 1) rfl rfl (by decide) (fun _=>by simp[go_sem,execOp,Act.eval]) (fun _=>by simp[go_sem,execOp,Act.eval]) ?_
  walk_nrm
  refine co_region_end hZ hX ?_
  refine co_seq hZ hX ?_
  refine c_region (n:=0) (J:=fun _ a=>Co Try.prog Z 0 (g.fx Try.prog κL 0) a w1) (Co.calmly hZ hX) [0,1,2,3,4,5,6,7,8,9,10] rfl ?_
  refine co_value hZ hX (.int .i64 (i:Int)) rfl rfl (by decide) (fun _=>by simp[go_sem,execOp,Act.eval]) (fun _=>by simp[go_sem,execOp,Act.eval]) ?_
  walk_nrm
  refine co_op hZ hX TT.toTable (by decide) (R:=fun y u=>y=.pointer (some ⟨q6,i,none⟩)∧Same u w1) rfl rfl (by kernel_rfl) (fun u hu=>⟨.pointer (some ⟨q6,i,none⟩),u, ?_,rfl,hu⟩) (fun y u hh=> ?_)
  ·simp[go_sem,execOp,Act.eval,show¬((2:Int)≤(i:Int)) by omega]
  obtain⟨rfl,hu⟩:=hh
  refine co_same hu ?_
  clear hu u
  walk_nrm
  refine co_op hZ hX TT.toTable (by decide) (R:=fun y u=>y=sv∧Same u w1) rfl rfl (by kernel_rfl) (fun u hu=>⟨sv,u, ?_,rfl,hu⟩) (fun y u hh=> ?_)
  ·have hs:u.cell? ⟨q6,i,none⟩=some sv:=by unfold World.cell?;rw[hu.heap];exact hsv
   simp[go_sem,execOp,Act.eval,hs]
  obtain⟨hy,hu⟩:=hh;have hy:=hy.symm;subst hy
  refine co_same hu ?_
  clear hu u
  walk_nrm
  refine co_value hZ hX (.int .i64 n) rfl rfl (by decide) (fun _=>by simp[go_sem,execOp,Act.eval]) (fun _=>by simp[go_sem,execOp,Act.eval]) ?_
  walk_nrm
  refine co_op hZ hX TT.toTable (by decide) (R:=fun y u=>y=.slice (some ⟨w1.heap.size,0,none⟩) 1 1∧Same u (w1.alloc (.cells #[.int .i64 n] 3))) rfl rfl (by kernel_rfl) (fun u hu=>⟨.slice (some ⟨u.heap.size,0,none⟩) 1 1,u.alloc (.cells #[.int .i64 n] 3), ?_,by rw[hu.heap],hu.alloc _⟩) (fun y u hh=> ?_)
  ·first|(simp[go_sem,execOp,Act.eval];done)|kernel_rfl
  obtain⟨rfl,hu⟩:=hh
  refine co_same hu ?_
  clear hu u
  walk_nrm
  have ca:=Chg.alloc (fun _=>False) w1 (.cells #[.int .i64 n] 3)
  have c1:=c1.trans ca (fun _ _=>id)
  have hsv:=ca.cell hsv id
  have hno:=hno.chg ca
  have hl:=fun j (hj:j<2)=>(show∃sv,(w1.alloc (.cells #[.int .i64 n] 3)).cell? ⟨q6,j,none⟩=some sv∧NoS sv (w1.alloc (.cells #[.int .i64 n] 3)) from let⟨sv,h1,h2⟩:=hl j hj;⟨sv,ca.cell h1 id,h2.chg ca⟩)
  clear ca
  generalize w1.alloc (.cells #[.int .i64 n] 3)=w2 at c1 hsv hno hl⊢
  generalize w1.heap.size=q2
  refine co_call2 hZ hX rfl rfl (by decide) rfl Try.func19 (by kernel_rfl) (by kernel_rfl) (vals:=#[sv,.slice (some ⟨q2,0,none⟩) 1 1]) (by simp[Act.eval]) ?_
  refine Run_no hZ hX hno _ _ fun e X' w3 hq=> ?_
  obtain⟨rfl,rfl,cc⟩:=hq
  have c1:=c1.trans cc (fun _ _=>id)
  have hsv:=cc.cell hsv id
  have hno:=hno.chg cc
  have hl:=fun j (hj:j<2)=>(show∃sv,w3.cell? ⟨q6,j,none⟩=some sv∧NoS sv w3 from let⟨sv,h1,h2⟩:=hl j hj;⟨sv,cc.cell h1 id,h2.chg cc⟩)
  clear cc
  rw[Frame.finish_at]
  walk_nrm
  refine co_value hZ hX (.tuple #[.int .i64 0,.int .i64 1]) rfl rfl (by decide) (fun _=>by simp[go_sem,execOp,Act.eval]) (fun _=>by simp[go_sem,execOp,Act.eval]) ?_
  walk_nrm
  refine co_value hZ hX (.int .i64 0) rfl rfl (by decide) (fun _=>by simp[go_sem,execOp,Act.eval]) (fun _=>by simp[go_sem,execOp,Act.eval]) ?_
  walk_nrm
  refine co_value hZ hX (.int .i64 1) rfl rfl (by decide) (fun _=>by simp[go_sem,execOp,Act.eval]) (fun _=>by simp[go_sem,execOp,Act.eval]) ?_
  walk_nrm
  refine co_value hZ hX (.int .i64 0) rfl rfl (by decide) (fun _=>by simp[go_sem,execOp,Act.eval]) (fun _=>by simp[go_sem,execOp,Act.eval]) ?_
  walk_nrm
  refine co_value hZ hX (.int .i64 1) rfl rfl (by decide) (fun _=>by simp[go_sem,execOp,Act.eval]) (fun _=>by simp[go_sem,execOp,Act.eval]) ?_
  walk_nrm
  refine co_region_end hZ hX ?_
  refine co_seq hZ hX ?_
  refine c_region (n:=0) (J:=fun _ a=>Co Try.prog Z 0 (g.fx Try.prog κL 0) a w3) (Co.calmly hZ hX) [0,1,2,3,4,5,6,7,8,9] rfl ?_
  refine co_value hZ hX (.int .i64 (i:Int)) rfl rfl (by decide) (fun _=>by simp[go_sem,execOp,Act.eval]) (fun _=>by simp[go_sem,execOp,Act.eval]) ?_
  walk_nrm
  refine co_op hZ hX TT.toTable (by decide) (R:=fun y u=>y=.pointer (some ⟨q6,i,none⟩)∧Same u w3) rfl rfl (by kernel_rfl) (fun u hu=>⟨.pointer (some ⟨q6,i,none⟩),u, ?_,rfl,hu⟩) (fun y u hh=> ?_)
  ·simp[go_sem,execOp,Act.eval,show¬((2:Int)≤(i:Int)) by omega]
  obtain⟨rfl,hu⟩:=hh
  refine co_same hu ?_
  clear hu u
  walk_nrm
  refine co_op hZ hX TT.toTable (by decide) (R:=fun y u=>y=sv∧Same u w3) rfl rfl (by kernel_rfl) (fun u hu=>⟨sv,u, ?_,rfl,hu⟩) (fun y u hh=> ?_)
  ·have hs:u.cell? ⟨q6,i,none⟩=some sv:=by unfold World.cell?;rw[hu.heap];exact hsv
   simp[go_sem,execOp,Act.eval,hs]
  obtain⟨hy,hu⟩:=hh;have hy:=hy.symm;subst hy
  refine co_same hu ?_
  clear hu u
  walk_nrm
  refine co_value hZ hX (.int .i64 n) rfl rfl (by decide) (fun _=>by simp[go_sem,execOp,Act.eval]) (fun _=>by simp[go_sem,execOp,Act.eval]) ?_
  walk_nrm
  refine co_call2 hZ hX rfl rfl (by decide) rfl Try.func12 (by kernel_rfl) (by kernel_rfl) (vals:=#[sv,.int .i64 n]) (by simp[Act.eval]) ?_
  refine Fair_no hZ hX hno _ _ fun e X' w4 hq=> ?_
  obtain⟨rfl,rfl,cc⟩:=hq
  have c1:=c1.trans cc (fun _ _=>id)
  have hsv:=cc.cell hsv id
  have hno:=hno.chg cc
  have hl:=fun j (hj:j<2)=>(show∃sv,w4.cell? ⟨q6,j,none⟩=some sv∧NoS sv w4 from let⟨sv,h1,h2⟩:=hl j hj;⟨sv,cc.cell h1 id,h2.chg cc⟩)
  clear cc
  rw[Frame.finish_at]
  walk_nrm
  refine co_value hZ hX (.tuple #[.int .i64 0,.int .i64 1]) rfl rfl (by decide) (fun _=>by simp[go_sem,execOp,Act.eval]) (fun _=>by simp[go_sem,execOp,Act.eval]) ?_
  walk_nrm
  refine co_value hZ hX (.int .i64 0) rfl rfl (by decide) (fun _=>by simp[go_sem,execOp,Act.eval]) (fun _=>by simp[go_sem,execOp,Act.eval]) ?_
  walk_nrm
  refine co_value hZ hX (.int .i64 1) rfl rfl (by decide) (fun _=>by simp[go_sem,execOp,Act.eval]) (fun _=>by simp[go_sem,execOp,Act.eval]) ?_
  walk_nrm
  refine co_value hZ hX (.int .i64 0) rfl rfl (by decide) (fun _=>by simp[go_sem,execOp,Act.eval]) (fun _=>by simp[go_sem,execOp,Act.eval]) ?_
  walk_nrm
  refine co_value hZ hX (.int .i64 1) rfl rfl (by decide) (fun _=>by simp[go_sem,execOp,Act.eval]) (fun _=>by simp[go_sem,execOp,Act.eval]) ?_
  walk_nrm
  refine co_region_end hZ hX ?_
  refine co_seq hZ hX ?_
  refine co_code hZ hX TT (by decide) (by kernel_rfl) (by kernel_rfl) fun K hK u hu=> ?_
  have C0:=same_chg (F:=fun _=>False) hu
  have hs:=C0.cell hsv id
  have R:=Lib.hid (Enabled_no (hno.chg C0))
  have C0:=Hd.mk C0
  clear hu
  go_wp2_with (go_at_call 16;refine R.out.mono ?_;rintro e w5 ⟨rfl,hb⟩;have HB:=Hd.mk hb;clear hb)
  refine hK.out _ _ ?_
  have cc:=C0.out.trans (Chg.of_below (F:=fun _=>False) HB.out) (fun _ _=>id)
  clear hK K R C0 HB hs
  have c1:=c1.trans cc (fun _ _=>id)
  have hsv:=cc.cell hsv id
  have hno:=hno.chg cc
  have hl:=fun j (hj:j<2)=>(show∃sv,w5.cell? ⟨q6,j,none⟩=some sv∧NoS sv w5 from let⟨sv,h1,h2⟩:=hl j hj;⟨sv,cc.cell h1 id,h2.chg cc⟩)
  clear cc
  refine co_seq hZ hX ?_
  refine c_region (n:=0) (J:=fun _ a=>Co Try.prog Z 0 (g.fx Try.prog κL 0) a w5) (Co.calmly hZ hX) [0,1,2,3,4,5,6,7,8] rfl ?_
  refine co_value hZ hX (.int .i64 (i:Int)) rfl rfl (by decide) (fun _=>by simp[go_sem,execOp,Act.eval]) (fun _=>by simp[go_sem,execOp,Act.eval]) ?_
  walk_nrm
  refine co_op hZ hX TT.toTable (by decide) (R:=fun y u=>y=.pointer (some ⟨q6,i,none⟩)∧Same u w5) rfl rfl (by kernel_rfl) (fun u hu=>⟨.pointer (some ⟨q6,i,none⟩),u, ?_,rfl,hu⟩) (fun y u hh=> ?_)
  ·simp[go_sem,execOp,Act.eval,show¬((2:Int)≤(i:Int)) by omega]
  obtain⟨rfl,hu⟩:=hh
  refine co_same hu ?_
  clear hu u
  walk_nrm
  refine co_op hZ hX TT.toTable (by decide) (R:=fun y u=>y=sv∧Same u w5) rfl rfl (by kernel_rfl) (fun u hu=>⟨sv,u, ?_,rfl,hu⟩) (fun y u hh=> ?_)
  ·have hs:u.cell? ⟨q6,i,none⟩=some sv:=by unfold World.cell?;rw[hu.heap];exact hsv
   simp[go_sem,execOp,Act.eval,hs]
  obtain⟨hy,hu⟩:=hh;have hy:=hy.symm;subst hy
  refine co_same hu ?_
  clear hu u
  walk_nrm
  refine co_call2 hZ hX rfl rfl (by decide) rfl Try.func15 (by kernel_rfl) (by kernel_rfl) (vals:=#[sv]) (by simp[Act.eval]) ?_
  refine Close_no hZ hX hno _ _ fun e X' w6 hq=> ?_
  obtain⟨rfl,rfl,cc⟩:=hq
  have c1:=c1.trans cc (fun _ _=>id)
  have hsv:=cc.cell hsv id
  have hno:=hno.chg cc
  have hl:=fun j (hj:j<2)=>(show∃sv,w6.cell? ⟨q6,j,none⟩=some sv∧NoS sv w6 from let⟨sv,h1,h2⟩:=hl j hj;⟨sv,cc.cell h1 id,h2.chg cc⟩)
  clear cc
  rw[Frame.finish_at]
  walk_nrm
  refine co_value hZ hX (.tuple #[.int .i64 0,.int .i64 1]) rfl rfl (by decide) (fun _=>by simp[go_sem,execOp,Act.eval]) (fun _=>by simp[go_sem,execOp,Act.eval]) ?_
  walk_nrm
  refine co_value hZ hX (.int .i64 0) rfl rfl (by decide) (fun _=>by simp[go_sem,execOp,Act.eval]) (fun _=>by simp[go_sem,execOp,Act.eval]) ?_
  walk_nrm
  refine co_value hZ hX (.int .i64 1) rfl rfl (by decide) (fun _=>by simp[go_sem,execOp,Act.eval]) (fun _=>by simp[go_sem,execOp,Act.eval]) ?_
  walk_nrm
  refine co_value hZ hX (.int .i64 0) rfl rfl (by decide) (fun _=>by simp[go_sem,execOp,Act.eval]) (fun _=>by simp[go_sem,execOp,Act.eval]) ?_
  walk_nrm
  refine co_value hZ hX (.int .i64 1) rfl rfl (by decide) (fun _=>by simp[go_sem,execOp,Act.eval]) (fun _=>by simp[go_sem,execOp,Act.eval]) ?_
  walk_nrm
  refine co_region_end hZ hX ?_
  refine co_seq hZ hX ?_
  refine co_code hZ hX TT (by decide) (by kernel_rfl) (by kernel_rfl) fun K hK u hu=> ?_
  have C0:=same_chg (F:=fun _=>False) hu
  have hs:=C0.cell hsv id
  have R:=Lib.hid (Log_no (hno.chg C0))
  have C0:=Hd.mk C0
  clear hu
  go_wp2_with (go_at_call 20;refine R.out.mono ?_;rintro e w7 ⟨rfl,hb⟩;have HB:=Hd.mk hb;clear hb)
  refine hK.out _ _ ?_
  have cc:=C0.out.trans (Chg.of_below (F:=fun _=>False) HB.out) (fun _ _=>id)
  clear hK K R C0 HB hs
  have c1:=c1.trans cc (fun _ _=>id)
  have hsv:=cc.cell hsv id
  have hno:=hno.chg cc
  have hl:=fun j (hj:j<2)=>(show∃sv,w7.cell? ⟨q6,j,none⟩=some sv∧NoS sv w7 from let⟨sv,h1,h2⟩:=hl j hj;⟨sv,cc.cell h1 id,h2.chg cc⟩)
  clear cc
  refine co_seq hZ hX ?_
  refine co_code hZ hX TT (by decide) (by kernel_rfl) (by kernel_rfl) fun K hK u hu=> ?_
  go_wp2_with fail
  refine hK.out _ _ (co_same hu ?_)
  clear hK K hu u
  refine co_cond (t:=false) hZ hX (by simp[Act.eval]) ?_
  simp only[Bool.false_eq_true,↓reduceIte]
  refine co_skip hZ hX ?_
  refine co_inBlock hZ hX ?_
  refine co_code hZ hX TT (by decide) (by kernel_rfl) (by kernel_rfl) fun K hK u hu=> ?_
  go_wp2_with fail
  refine hK.out _ _ (co_same hu ?_)
  clear hK K hu u
  refine co_inLoop hZ hX ?_
  exact IH.out (i+1) (by omega) c1 hl _ _ _ _ _ _ _ _ _ _ _ _ _ _ _ _ _ _ _ _ _ _ _ _ _ _ _ _ _ _ _ _ _ _ _ _ _ _ _ _ _ _ _ _ _ _ _ _ _ _ _ _ _ _ _ _ _ _ _ _ _ _ _ _ _ _ _ _ _ _ _ _ _ _ _ _ _ _ _ _ _ _ _ _ _ _ _ _ _ _ _ _ _ _ _ _ _ _ _ _ _ _ _ _ _ _ _ _ _ _ _ _ _ _ _ _ _ _ _ _ _ _ _ _ _ _ _ _ _ _ _ _ _ _ _ _ _ _ _ _ _ _ _ _ _ _ _ _ _ _ _ _ _ _ _ _ _ _ _ _ _ _ _
set_option maxRecDepth 100000 in
set_option maxHeartbeats 8000000 in
theorem none_co {v:World} {n:Int} {k:Int} (hn:Bd n) (hk:0≤k∧k<65536):LawCo 5 #[.int .i64 n,.int .u16 k] v:=by
 obtain⟨tk,rfl⟩:∃tk:Nat,k=(tk:Int):=⟨k.toNat,by omega⟩
 intro Z g hZ L hF
 have hX:=L.ok.fx κL_ok
 rw[enter_at _ Try.func5 (by kernel_rfl:Try.f5.body=some body5),Try.ntmps5]
 walk_nrm
 simp only[body5,Try.f5,Option.getD_some]
 refine co_seq hZ hX ?_
 refine co_code hZ hX TT (by decide) (by kernel_rfl) (by kernel_rfl) fun K hK u hu=> ?_
 go_wp2_with fail
 refine hK.out _ _ (co_same hu ?_)
 clear hK K hu u
 refine co_seq hZ hX ?_
 refine co_code hZ hX TT (by decide) (by kernel_rfl) (by kernel_rfl) fun K hK u hu=> ?_
 go_wp2_with fail
 refine hK.out _ _ (co_same hu ?_)
 clear hK K hu u
 refine co_seq hZ hX ?_
 refine co_code hZ hX TT (by decide) (by kernel_rfl) (by kernel_rfl) fun K hK u hu=> ?_
 have hz0:u.heap.size=v.heap.size:=by rw[hu.heap]
 go_wp2_with fail
 refine hK.out _ _ (co_same ((hu.alloc _).alloc _) ?_)
 clear hK K hu hz0 u
 have hz1:(v.alloc (.cells #[.nilIface,.slice none 0 0,.slice none 0 0,.int .i64 0,.bool false,.int .u64 0,.int .u32 0] 62)).heap.size=v.heap.size+1:=by simp
 refine at_world (fun y=>Chg (fun _=>False) v y∧(y.cell? ⟨v.heap.size,0,none⟩=some .nilIface∧y.cell? ⟨v.heap.size+1,0,none⟩=some (.pointer none)∧y.cell? ⟨v.heap.size+1,1,none⟩=some (.pointer (some ⟨v.heap.size,0,none⟩)))) ⟨(Chg.alloc (fun _=>False) v (.cells #[.nilIface,.slice none 0 0,.slice none 0 0,.int .i64 0,.bool false,.int .u64 0,.int .u32 0] 62)).trans (Chg.alloc _ _ _) (fun _ _=>id), ?_, ?_, ?_⟩ fun y hy=> ?_
 ·refine(Chg.alloc (fun _=>False) (v.alloc (.cells #[.nilIface,.slice none 0 0,.slice none 0 0,.int .i64 0,.bool false,.int .u64 0,.int .u32 0] 62)) _).cell ?_ id
  exact(Cells.new v [.nilIface,.slice none 0 0,.slice none 0 0,.int .i64 0,.bool false,.int .u64 0,.int .u32 0] 62).c 0 _ rfl
 ·rw[←hz1]
  exact(Cells.new (v.alloc (.cells #[.nilIface,.slice none 0 0,.slice none 0 0,.int .i64 0,.bool false,.int .u64 0,.int .u32 0] 62)) [.pointer none,.pointer (some ⟨v.heap.size,0,none⟩)] 63).c 0 _ rfl
 ·rw[←hz1]
  exact(Cells.new (v.alloc (.cells #[.nilIface,.slice none 0 0,.slice none 0 0,.int .i64 0,.bool false,.int .u64 0,.int .u32 0] 62)) [.pointer none,.pointer (some ⟨v.heap.size,0,none⟩)] 63).c 1 _ rfl
 obtain⟨c1,h0,h1,h2⟩:=hy
 clear hz1
 refine co_seq hZ hX ?_
 refine co_seq hZ hX ?_
 refine co_code hZ hX TT (by decide) (by kernel_rfl) (by kernel_rfl) fun K hK u hu=> ?_
 go_wp2_with fail
 refine hK.out _ _ (co_same hu ?_)
 clear hK K hu u
 refine co_block hZ hX ?_
 refine co_loop hZ hX ?_
 have h:=none_loop (q6:=v.heap.size+1) (tk:=tk) hZ hF L hn (by omega) 2 0 (by omega) c1 (fun j hj=>by
  rcases(by omega:j=0∨j=1) with rfl|rfl
  ·exact⟨_,h1,.inl rfl⟩
  ·exact⟨_,h2,.inr ⟨_,rfl,h0⟩⟩)
 simp only[lb5,rest5,body5,Try.f5,Option.getD_some,fstC,sndC,inC] at h
 exact h _ _ _ _ _ _ _ _ _ _ _ _ _ _ _ _ _ _ _ _ _ _ _ _ _ _ _ _ _ _ _ _ _ _ _ _ _ _ _ _ _ _ _ _ _ _ _ _ _ _ _ _ _ _ _ _ _ _ _ _ _ _ _ _ _ _ _ _ _ _ _ _ _ _ _ _ _ _ _ _ _ _ _ _ _ _ _ _ _ _ _ _ _ _ _ _ _ _ _ _ _ _ _ _ _ _ _ _ _ _ _ _ _ _ _ _ _ _ _ _ _ _ _ _ _ _ _ _ _ _ _ _ _ _ _ _ _ _ _ _ _ _ _ _ _ _ _ _ _ _ _ _ _ _ _ _ _ _ _ _ _ _ _
end Co
end Go.Proofs.Ytlngbdggehghgaa
