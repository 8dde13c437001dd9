/-
  The law SchedFair, in company. Conditions: as each theorem says.
-/
import Derived.Test.YtlngbdggehghgaaCyS
namespace Go.Proofs.Ytlngbdggehghgaa
set_option linter.unusedSimpArgs false
set_option linter.unusedVariables false
namespace Co
open Go.Conc Go.RowKit
set_option maxRecDepth 100000 in
set_option maxHeartbeats 8000000 in
theorem fairs_end {Z:Goal} {v:World} {D:Wd} {B s:Nat} {S:SS} {x:RW} (hZ:Z.Ok Try.prog) (hF:Fin Z v) (hD:Wd.Ok D) (hkp:∀x F w,D.mem x F w→Kp v.heap.size v w) (hop:S.closed=false) {g:Gh} {bs:List Nat} {M:Nat→Prop} {w:World}
 (L:Liv D B g s bs S x M w) (j0 j1 j2 j3 j4 j5 j8 j9 j10 j11 j12 j13 j14 j15 j16 j17 j18 j19 j20 j21 j22 j23 j24 j25 j26 j27 j28 j29 j30 j31 j32 j33 j34 j35 j36 j37 j38 j39 j40 j41 j42 j43 j44 j45 j46 j47 j48 j49 j50 j51 j52 j53 j54 j55 j56 j57 j58 j59 j60 j61 j62 j63 j64 j65 j66 j67 j68 j69 j70 j71 j72 j73 j74 j75 j76 j77 j78 j79 j80 j81 j82 j83 j84 j85 j86 j87 j88 j89 j90 j91 j92 j93 j94 j95 j96 j97 j98 j99 j100 j101 j102 j103 j104 j105 j106 j107 j108 j109 j110 j111 j112 j113 j114 j115 j116 j117 j118 j119 j120 j121 j122 j123 j124 j125 j126 j127 j128 j129 j130 j131 j132 j133 j134 j135 j136 j137 j138 j139 j140 j141 j142 j143 j144 j145 j146 j147 j148 j149 j150 j151 j152 j153 j154 j155 j156 j157 j158 j159 j160 j161 j162 j163 j164 j165 j166 j167 j168 j169 j170 j171 j172 j173 j174 j175 j176 j177 j178 j179 j180 j181 j182 j183 j184 j185 j186 j187 j188 j189 j190 j191 j192 j193 j194 j195 j196 j197:Value):Co Try.prog Z 0 (g.fx Try.prog κL 0) (G ((Go.Conc.base 7).at ⟨#[j0,j1,j2,j3,j4,j5,.bool false,.pointer (some ⟨s,0,none⟩),j8,j9,j10,j11,j12,j13,j14,j15,j16,j17,j18,j19,j20,j21,j22,j23,j24,j25,j26,j27,j28,j29,j30,j31,j32,j33,j34,j35,j36,j37,j38,j39,j40,j41,j42,j43,j44,j45,j46,j47,j48,j49,j50,j51,j52,j53,j54,j55,j56,j57,j58,j59,j60,j61,j62,j63,j64,j65,j66,j67,j68,j69,j70,j71,j72,j73,j74,j75,j76,j77,j78,j79,j80,j81,j82,j83,j84,j85,j86,j87,j88,j89,j90,j91,j92,j93,j94,j95,j96,j97,j98,j99,j100,j101,j102,j103,j104,j105,j106,j107,j108,j109,j110,j111,j112,j113,j114,j115,j116,j117,j118,j119,j120,j121,j122,j123,j124,j125,j126,j127,j128,j129,j130,j131,j132,j133,j134,j135,j136,j137,j138,j139,j140,j141,j142,j143,j144,j145,j146,j147,j148,j149,j150,j151,j152,j153,j154,j155,j156,j157,j158,j159,j160,j161,j162,j163,j164,j165,j166,j167,j168,j169,j170,j171,j172,j173,j174,j175,j176,j177,j178,j179,j180,j181,j182,j183,j184,j185,j186,j187,j188,j189,j190,j191,j192,j193,j194,j195,j196,j197],[]⟩ [.code (sndC rest7)]) []) w:=by
 have hX:=L.ok
 simp only[rest7,body7,Try.f7,Option.getD_some,sndC]
 refine co_seq hZ hX ?_
 refine c_region (n:=0) (J:=fun _ a=>Co Try.prog Z 0 (g.fx Try.prog κL 0) a w) (Co.calmly hZ hX) [0,1,2,3,4,5,6] rfl ?_
 refine co_value hZ hX (.pointer (some ⟨s,0,none⟩)) rfl rfl (by decide) (fun _=>by simp[go_sem,execOp,Act.eval]) (fun _=>by simp[go_sem,execOp,Act.eval]) ?_
 walk_nrm
 refine co_call2 hZ hX rfl rfl (by decide) rfl Try.func15 (by kernel_rfl) (by kernel_rfl) (vals:=#[.pointer (some ⟨s,0,none⟩)]) (by simp[Act.eval]) ?_
 refine Close_co hD hZ L.sch hop _ _ fun e X3 v3 hq=> ?_
 obtain⟨rfl,g3,rfl,L3,hC,c3⟩:=hq
 have KP:Kp v.heap.size v v3:=by
  obtain⟨_,_,_,_,hm,_⟩:=hC
  exact hkp _ _ _ hm
 have hX3:=L3.ok.fx κL_ok
 rw[Frame.finish_at]
 walk_nrm
 generalize((alI S).length:Int)=al
 refine co_value hZ hX3 (.tuple #[.int .i64 al,.int .i64 0]) rfl rfl (by decide) (fun _=>by simp[go_sem,execOp,Act.eval]) (fun _=>by simp[go_sem,execOp,Act.eval]) ?_
 walk_nrm
 refine co_value hZ hX3 (.int .i64 al) rfl rfl (by decide) (fun _=>by simp[go_sem,execOp,Act.eval]) (fun _=>by simp[go_sem,execOp,Act.eval]) ?_
 walk_nrm
 refine co_value hZ hX3 (.int .i64 0) rfl rfl (by decide) (fun _=>by simp[go_sem,execOp,Act.eval]) (fun _=>by simp[go_sem,execOp,Act.eval]) ?_
 walk_nrm
 refine co_value hZ hX3 (.int .i64 al) rfl rfl (by decide) (fun _=>by simp[go_sem,execOp,Act.eval]) (fun _=>by simp[go_sem,execOp,Act.eval]) ?_
 walk_nrm
 refine co_value hZ hX3 (.int .i64 0) rfl rfl (by decide) (fun _=>by simp[go_sem,execOp,Act.eval]) (fun _=>by simp[go_sem,execOp,Act.eval]) ?_
 walk_nrm
 refine co_region_end hZ hX3 ?_
 refine co_seq hZ hX3 ?_
 refine c_region (n:=0) (J:=fun _ a=>Co Try.prog Z 0 (g3.fx Try.prog κL 0) a v3) (Co.calmly hZ hX3) [0,1,2,3,4,5] rfl ?_
 refine co_value hZ hX3 (.int .i64 0) rfl rfl (by decide) (fun _=>by simp[go_sem,execOp,Act.eval]) (fun _=>by simp[go_sem,execOp,Act.eval]) ?_
 walk_nrm
 refine co_value hZ hX3 (.bool true) rfl rfl (by decide) (fun _=>by simp[go_sem,execOp,Act.eval]) (fun _=>by simp[go_sem,execOp,Act.eval]) ?_
 walk_nrm
 refine co_value hZ hX3 (.bool true) rfl rfl (by decide) (fun _=>by simp[go_sem,execOp,Act.eval]) (fun _=>by simp[go_sem,execOp,Act.eval]) ?_
 walk_nrm
 refine co_call2 hZ hX3 rfl rfl (by decide) rfl Try.func11 (by kernel_rfl) (by kernel_rfl) (vals:=#[]) (by simp[Act.eval]) ?_
 refine awake_co hZ L3 _ _ fun e X9 v9 hq9=> ?_
 obtain⟨rfl,⟨g9,rfl,L9⟩,c9⟩:=hq9
 have hX9:=L9.ok.fx κL_ok
 rw[Frame.finish_at]
 walk_nrm
 refine co_value hZ hX9 (.bool true) rfl rfl (by decide) (fun _=>by simp[go_sem,execOp,Act.eval]) (fun _=>by simp[go_sem,execOp,Act.eval]) ?_
 walk_nrm
 refine co_value hZ hX9 (.bool true) rfl rfl (by decide) (fun _=>by simp[go_sem,execOp,Act.eval]) (fun _=>by simp[go_sem,execOp,Act.eval]) ?_
 walk_nrm
 refine co_region_end hZ hX9 ?_
 refine co_ret hZ hX9 ?_
 exact fin_leave hF L9 (KP.still c9).out rfl rfl Try.func7 (fun w=>by simp[results,Try.results7,go_sem]) (fun w=>by simp[results,Try.results7,go_sem]) (by kernel_rfl)
set_option maxRecDepth 100000 in
set_option maxHeartbeats 8000000 in
theorem fairs_loop {Z:Goal} {v:World} {D:Wd} {B s:Nat} {st:Nat} (hZ:Z.Ok Try.prog) (hF:Fin Z v) (hD:Wd.Ok D) (hkp:∀x F w,D.mem x F w→Kp v.heap.size v w) (hst:st<256):
 ∀(m i:Nat),i+m=st%100→∀{g:Gh} {bs:List Nat} {S:SS} {x:RW} {M:Nat→Prop} {w:World},Liv D B g s bs S x M w→S.closed=false→
 ∀(j0 j1 j3 j4 j5 j8 j10 j11 j12 j13 j14 j15 j16 j17 j18 j19 j20 j21 j22 j23 j24 j25 j26 j27 j28 j29 j30 j31 j32 j33 j34 j35 j36 j37 j38 j39 j40 j41 j42 j43 j44 j45 j46 j47 j48 j49 j50 j51 j52 j53 j54 j55 j56 j57 j58 j59 j60 j61 j62 j63 j64 j65 j66 j67 j68 j69 j70 j71 j72 j73 j74 j75 j76 j77 j78 j79 j80 j81 j82 j83 j84 j85 j86 j87 j88 j89 j90 j91 j92 j93 j94 j95 j96 j97 j98 j99 j100 j101 j102 j103 j104 j105 j106 j107 j108 j109 j110 j111 j112 j113 j114 j115 j116 j117 j118 j119 j120 j121 j122 j123 j124 j125 j126 j127 j128 j129 j130 j131 j132 j133 j134 j135 j136 j137 j138 j139 j140 j141 j142 j143 j144 j145 j146 j147 j148 j149 j150 j151 j152 j153 j154 j155 j156 j157 j158 j159 j160 j161 j162 j163 j164 j165 j166 j167 j168 j169 j170 j171 j172 j173 j174 j175 j176 j177 j178 j179 j180 j181 j182 j183 j184 j185 j186 j187 j188 j189 j190 j191 j192 j193 j194 j195 j196 j197:Value),Co Try.prog Z 0 (g.fx Try.prog κL 0) (G ((Go.Conc.base 7).at ⟨#[j0,j1,.int .u8 (st:Int),j3,j4,j5,.bool false,.pointer (some ⟨s,0,none⟩),j8,.int .i64 (i:Int),j10,j11,j12,j13,j14,j15,j16,j17,j18,j19,j20,j21,j22,j23,j24,j25,j26,j27,j28,j29,j30,j31,j32,j33,j34,j35,j36,j37,j38,j39,j40,j41,j42,j43,j44,j45,j46,j47,j48,j49,j50,j51,j52,j53,j54,j55,j56,j57,j58,j59,j60,j61,j62,j63,j64,j65,j66,j67,j68,j69,j70,j71,j72,j73,j74,j75,j76,j77,j78,j79,j80,j81,j82,j83,j84,j85,j86,j87,j88,j89,j90,j91,j92,j93,j94,j95,j96,j97,j98,j99,j100,j101,j102,j103,j104,j105,j106,j107,j108,j109,j110,j111,j112,j113,j114,j115,j116,j117,j118,j119,j120,j121,j122,j123,j124,j125,j126,j127,j128,j129,j130,j131,j132,j133,j134,j135,j136,j137,j138,j139,j140,j141,j142,j143,j144,j145,j146,j147,j148,j149,j150,j151,j152,j153,j154,j155,j156,j157,j158,j159,j160,j161,j162,j163,j164,j165,j166,j167,j168,j169,j170,j171,j172,j173,j174,j175,j176,j177,j178,j179,j180,j181,j182,j183,j184,j185,j186,j187,j188,j189,j190,j191,j192,j193,j194,j195,j196,j197],[]⟩ [.code lb7,.inLoop lb7,.inBlock 0,.code (sndC rest7)]) []) w:=by
 intro m
 induction m with
 |zero=>
  intro i hi g bs S x M w L hop j0 j1 j3 j4 j5 j8 j10 j11 j12 j13 j14 j15 j16 j17 j18 j19 j20 j21 j22 j23 j24 j25 j26 j27 j28 j29 j30 j31 j32 j33 j34 j35 j36 j37 j38 j39 j40 j41 j42 j43 j44 j45 j46 j47 j48 j49 j50 j51 j52 j53 j54 j55 j56 j57 j58 j59 j60 j61 j62 j63 j64 j65 j66 j67 j68 j69 j70 j71 j72 j73 j74 j75 j76 j77 j78 j79 j80 j81 j82 j83 j84 j85 j86 j87 j88 j89 j90 j91 j92 j93 j94 j95 j96 j97 j98 j99 j100 j101 j102 j103 j104 j105 j106 j107 j108 j109 j110 j111 j112 j113 j114 j115 j116 j117 j118 j119 j120 j121 j122 j123 j124 j125 j126 j127 j128 j129 j130 j131 j132 j133 j134 j135 j136 j137 j138 j139 j140 j141 j142 j143 j144 j145 j146 j147 j148 j149 j150 j151 j152 j153 j154 j155 j156 j157 j158 j159 j160 j161 j162 j163 j164 j165 j166 j167 j168 j169 j170 j171 j172 j173 j174 j175 j176 j177 j178 j179 j180 j181 j182 j183 j184 j185 j186 j187 j188 j189 j190 j191 j192 j193 j194 j195 j196 j197
  have hX:=L.ok
  have hend:=Hd.mk (fairs_end hZ hF hD hkp hop L)
  have hN:((st:Int)%100)=(i:Int):=by omega
  have h100:(st%100:Nat)=i:=by omega
  simp only[lb7,rest7,body7,Try.f7,Option.getD_some,fstC,sndC,inC] at hend⊢
  refine co_seq hZ hX ?_
  refine co_seq hZ hX ?_
  refine co_code hZ hX TT (by decide) (by kernel_rfl) (by kernel_rfl) fun K hK u hu=> ?_
  go_wp2_with fail
  refine hK.out _ _ (co_same hu ?_)
  clear hK K hu u
  refine co_cond (t:=false) hZ hX (by simp[Act.eval]<;>omega) ?_
  simp only[Bool.false_eq_true,↓reduceIte]
  refine co_exit hZ hX rfl ?_
  exact hend.out _ _ _ _ _ _ _ _ _ _ _ _ _ _ _ _ _ _ _ _ _ _ _ _ _ _ _ _ _ _ _ _ _ _ _ _ _ _ _ _ _ _ _ _ _ _ _ _ _ _ _ _ _ _ _ _ _ _ _ _ _ _ _ _ _ _ _ _ _ _ _ _ _ _ _ _ _ _ _ _ _ _ _ _ _ _ _ _ _ _ _ _ _ _ _ _ _ _ _ _ _ _ _ _ _ _ _ _ _ _ _ _ _ _ _ _ _ _ _ _ _ _ _ _ _ _ _ _ _ _ _ _ _ _ _ _ _ _ _ _ _ _ _ _ _ _ _ _ _ _ _ _ _ _ _ _ _ _ _ _ _ _ _ _ _ _ _ _ _ _ _ _ _ _ _ _ _ _ _ _ _ _ _ _ _ _ _ _ _ _ _ _ _ _ _ _
 |succ m ih=>
  intro i hi g2 bs2 S x M2 w L2 hop j0 j1 j3 j4 j5 j8 j10 j11 j12 j13 j14 j15 j16 j17 j18 j19 j20 j21 j22 j23 j24 j25 j26 j27 j28 j29 j30 j31 j32 j33 j34 j35 j36 j37 j38 j39 j40 j41 j42 j43 j44 j45 j46 j47 j48 j49 j50 j51 j52 j53 j54 j55 j56 j57 j58 j59 j60 j61 j62 j63 j64 j65 j66 j67 j68 j69 j70 j71 j72 j73 j74 j75 j76 j77 j78 j79 j80 j81 j82 j83 j84 j85 j86 j87 j88 j89 j90 j91 j92 j93 j94 j95 j96 j97 j98 j99 j100 j101 j102 j103 j104 j105 j106 j107 j108 j109 j110 j111 j112 j113 j114 j115 j116 j117 j118 j119 j120 j121 j122 j123 j124 j125 j126 j127 j128 j129 j130 j131 j132 j133 j134 j135 j136 j137 j138 j139 j140 j141 j142 j143 j144 j145 j146 j147 j148 j149 j150 j151 j152 j153 j154 j155 j156 j157 j158 j159 j160 j161 j162 j163 j164 j165 j166 j167 j168 j169 j170 j171 j172 j173 j174 j175 j176 j177 j178 j179 j180 j181 j182 j183 j184 j185 j186 j187 j188 j189 j190 j191 j192 j193 j194 j195 j196 j197
  have hX2:=L2.ok
  have IH:=Hd.mk ih
  clear ih
  have hlt:(i:Int)<(st:Int)%100:=by omega
  have hr0:readyS S=0:=by unfold readyS;rw[hop];rfl
  have hSok:S.Ok:=by obtain⟨_,_,h⟩:=L2.pl hD (Chg.refl _ _);exact h.sm.ok
  have hel:=Lib.hid (fun j (hj:j∈enI S D.o x)=>enI_lt S D.o x j hj)
  have hel2:(enI S D.o x).length≤200:=Nat.le_trans (plc_len _ _ _) hSok.few
  have hbd:=Lib.hid (fun j=>ageOf_bd hSok j)
  have hids:=Lib.hid hSok.ids
  have hfew:S.rs.length≤200:=hSok.few
  have hnc:=Lib.hid (@next_cases S D.o x)
  have hno:=Lib.hid (@next_ok S D.o x)
  have hF1:=Lib.hid (Fair1 D S x)
  clear hSok
  simp only[lb7,rest7,body7,Try.f7,Option.getD_some,fstC,sndC,inC] at IH⊢
  refine co_seq hZ hX2 ?_
  refine co_seq hZ hX2 ?_
  refine co_code hZ hX2 TT (by decide) (by kernel_rfl) (by kernel_rfl) fun K hK u hu=> ?_
  go_wp2_with fail
  refine hK.out _ _ (co_same hu ?_)
  clear hK K hu u
  refine co_cond (t:=true) hZ hX2 (by simp[Act.eval]<;>omega) ?_
  simp only[↓reduceIte]
  refine co_skip hZ hX2 ?_
  refine co_seq hZ hX2 ?_
  refine co_block hZ hX2 ?_
  refine co_seq hZ hX2 ?_
  refine co_code hZ hX2 TT (by decide) (by kernel_rfl) (by kernel_rfl) fun K hK u hu=> ?_
  have C0:=same_chg (F:=fun _=>False) hu
  obtain⟨tv,uv,PP⟩:=L2.pl hD C0
  have R:=(Enabled_any x PP.sm PP.en PP.obj).mono (fun e w h=>by rw[hr0,hop,if_neg (by decide)] at h;exact h)
  have R:=Lib.hid R
  have C0:=Hd.mk C0
  have hlt:=Hd.mk (fun k (hk:M2 k)=>(show k<u.heap.size by rw[hu.heap];exact L2.lt k hk))
  clear hu PP
  go_wp2_with (go_at_call 16;refine R.out.mono ?_;rintro e v4 ⟨lv,rfl,hown,hb⟩;obtain⟨lA,lc,rfl,hl1,hl2,_⟩:=hown.form;have HO:=Hd.mk hown;clear hown;have HB:=Hd.mk hb;clear hb)
  refine hK.out _ _ ?_
  have C1':=C0.out.trans (Chg.of_below (F:=fun _=>False) HB.out) (fun _ _=>id)
  have L2:=L2.still hD C1'
  have B1:=Bes.new hlt.out HO.out
  rw[numsLen] at hl1 B1⊢
  clear HO
  clear hK K R C0 HB C1' hlt
  generalize hE:enI S D.o x=E at hl1 B1 hel hel2 hnc hno hF1
  have hE:=Lib.hid hE
  refine co_seq hZ hX2 ?_
  refine co_seq hZ hX2 ?_
  refine co_code hZ hX2 TT (by decide) (by kernel_rfl) (by kernel_rfl) fun K hK u hu=> ?_
  go_wp2_with fail
  refine hK.out _ _ (co_same hu ?_)
  clear hK K hu u
  refine co_cond (t:=false) hZ hX2 (by simp[Act.eval]) ?_
  simp only[Bool.false_eq_true,↓reduceIte]
  refine co_skip hZ hX2 ?_
  refine co_seq hZ hX2 ?_
  refine co_code hZ hX2 TT (by decide) (by kernel_rfl) (by kernel_rfl) fun K hK u hu=> ?_
  go_wp2_with fail
  refine hK.out _ _ (co_same hu ?_)
  clear hK K hu u
  refine co_seq hZ hX2 ?_
  refine co_codeR hZ hX2 TT rfl (by kernel_rfl) (by kernel_rfl) fun K hK u hu=> ?_
  have C0:=same_chg (F:=fun _=>False) hu
  obtain⟨tv,uv,PP⟩:=L2.pl hD C0
  have hA:=Lib.hid (fun(W:World) (hb:Below u.heap.size u W) (n:Int) (hn:Bd n)=>Age_any (PP.up hb).sm n hn)
  have hl:=Lib.hid (B1.sl.chg intR_flat C0 (fun _ _=>id))
  have C0:=Hd.mk C0
  clear hu PP
  suffices hM:∀w aA ac,Below u.heap.size u w→Own intR 3 u.heap.size w (.slice aA E.length ac) (agesE S E)→∀(j0 j1 j3 j4 j5 j8 j11 j13 j14 j15 j16 j17 j18 j19 j20 j21 j22 j23 j24 j25 j26 j27 j28 j29 j30 j31 j32 j33 j34 j35 j36 j37 j38 j39 j40 j41 j42 j43 j44 j45 j46 j47 j48 j49 j50 j51 j52 j53 j54 j55 j56 j57 j58 j59 j60 j61 j62 j63 j64 j65 j66 j67 j68 j69 j70 j71 j72 j73 j74 j75 j76 j77 j78 j79 j80 j81 j82 j83 j84 j85 j86 j87 j88 j89 j90 j91 j92 j93 j94 j95 j96 j97 j98 j99 j100 j101 j102 j103 j104 j105 j106 j107 j108 j109 j110 j111 j112 j113 j114 j115 j116 j117 j118 j119 j120 j121 j122 j123 j124 j125 j126 j127 j128 j129 j130 j131 j132 j133 j134 j135 j136 j137 j138 j139 j140 j141 j142 j143 j144 j145 j146 j147 j148 j149 j150 j151 j152 j153 j154 j155 j156 j157 j158 j159 j160 j161 j162 j163 j164 j165 j166 j167 j168 j169 j170 j171 j172 j173 j174 j175 j176 j177 j178 j179 j180 j181 j182 j183 j184 j185 j186 j187 j188 j189 j190 j191 j192 j193 j194 j195 j196 j197:Value),K #[j0,j1,.int .u8 (st:Int),j3,j4,j5,.bool false,.pointer (some ⟨s,0,none⟩),j8,.int .i64 (i:Int),.slice lA E.length lc,j11,.slice aA E.length ac,j13,j14,j15,j16,j17,j18,j19,j20,j21,j22,j23,j24,j25,j26,j27,j28,j29,j30,j31,j32,j33,j34,j35,j36,j37,j38,j39,j40,j41,j42,j43,j44,j45,j46,j47,j48,j49,j50,j51,j52,j53,j54,j55,j56,j57,j58,j59,j60,j61,j62,j63,j64,j65,j66,j67,j68,j69,j70,j71,j72,j73,j74,j75,j76,j77,j78,j79,j80,j81,j82,j83,j84,j85,j86,j87,j88,j89,j90,j91,j92,j93,j94,j95,j96,j97,j98,j99,j100,j101,j102,j103,j104,j105,j106,j107,j108,j109,j110,j111,j112,j113,j114,j115,j116,j117,j118,j119,j120,j121,j122,j123,j124,j125,j126,j127,j128,j129,j130,j131,j132,j133,j134,j135,j136,j137,j138,j139,j140,j141,j142,j143,j144,j145,j146,j147,j148,j149,j150,j151,j152,j153,j154,j155,j156,j157,j158,j159,j160,j161,j162,j163,j164,j165,j166,j167,j168,j169,j170,j171,j172,j173,j174,j175,j176,j177,j178,j179,j180,j181,j182,j183,j184,j185,j186,j187,j188,j189,j190,j191,j192,j193,j194,j195,j196,j197] w by
   have HM:=Hd.mk hM
   clear hK hM
   go_wp2_with fail
   go_loopw [6,12,13] (fun q av k wr=> ∃n:Nat,n≤E.length∧q=.bool false∧k=.int .i64 (n:Int)∧Hid (Below u.heap.size u wr)∧Hid (Own intR 3 u.heap.size wr av ((agesE S E).take n))) (fun _ _ k _=>201-(intOf k).toNat)
   case atStart=>exact⟨0,by omega,rfl,rfl,Below.refl _ _,Own.nil _ _ _ _⟩
   case round=>
    obtain⟨n,hn,rfl,rfl,hb,hown⟩:=hrel
    by_cases hlt2:n<E.length
    ·have hnl:n<(nums E).length:=by rw[numsLen];exact hlt2
     obtain⟨bl,off,cs,e1,hbl,h2,h3⟩:=(hl.out.up hb.out).at_ hnl
     subst e1
     have hp:=h3 0 _ (by rw[show cs=_ from h2.1];rfl)
     rw[nums_at hlt2] at hp
     simp only[intR,Nat.mul_one,Nat.add_zero] at hp
     have hEn:=hel.out _ (List.getElem_mem hlt2)
     obtain⟨hf,hag⟩:=age_of hop hEn
     have R:=hA.out _ hb.out ((E[n]:Int)+1) (by unfold Bd;omega)
     rw[hf,hag] at R
     have R:=Lib.hid R
     have hbg:=hbd.out E[n]
     have hps:=Lib.hid (show(agesE S E).take (n+1)=(agesE S E).take n++[ageOf S E[n]] by rw[List.take_succ_eq_append_getElem (by rw[agesE_len];exact hlt2),agesE_at hlt2])
     have hnl2:((agesE S E).take n).length≤200:=by simp[agesE];omega
     generalize ageOf S E[n]=ag at R hbg hps
     generalize((E[n]:Nat):Int)+1=en at R hp
     have HN:=Lib.hid (show Bd ag by unfold Bd;omega)
     clear hf hag h2 h3 hbl hEn hA hnl hids
     go_wp2_with first
      |(go_at_call 14;refine R.out.mono ?_;rintro e w2 ⟨rfl,hb2⟩;have HB:=Hd.mk hb2;clear hb2)
      |(at_builtin;refine wpList_append_sl _ rfl (.tmp 71) (.tmp 73) 42 rfl intR u.heap.size 3 _ 8 Try.underlying42 infoI rfl (by decide) _ ((agesE S E).take n) rfl ((hown.out.up HB.out).up (ba _ _)) _ [ag] rfl (slI_one _ _ _ _ rfl HN.out) (by simp;omega) (by decide) (by simp;exact Nat.le_succ_of_le (Nat.le_trans hb.out.size HB.out.size)) (fun w' _ cs y h=>intR_flat _ _ _ _ h) ?_;intro v1 w3 hown1 hg1 hat1)
     go_roundw
     case rel=>
      refine⟨n+1,by omega,rfl,by go_num, ?_, ?_⟩
      ·exact(bal (hb.out.trans (HB.out.mono hb.out.size))).grown hg1 (by simp;exact Nat.le_succ_of_le (Nat.le_trans hb.out.size HB.out.size)) fun j hj=>((hown.out.lt j hj)).1
      ·show Own _ _ _ _ _ _
       rw[hps.out]
       exact hown1
     case measure=>simp[intOf];omega
    ·have hke:n=E.length:=by omega
     subst hke
     rw[List.take_of_length_le (by rw[agesE_len];exact Nat.le_refl _)] at hown
     obtain⟨aA,ac,rfl,ha1,ha2,_⟩:=hown.out.form
     have hown:=Hd.mk hown.out
     rw[agesE_len] at ha1 hown⊢
     clear hlt2 hA hids
     go_wp2_with fail
     exact HM.out _ _ _ hb.out hown.out _ _ _ _ _ _ _ _ _ _ _ _ _ _ _ _ _ _ _ _ _ _ _ _ _ _ _ _ _ _ _ _ _ _ _ _ _ _ _ _ _ _ _ _ _ _ _ _ _ _ _ _ _ _ _ _ _ _ _ _ _ _ _ _ _ _ _ _ _ _ _ _ _ _ _ _ _ _ _ _ _ _ _ _ _ _ _ _ _ _ _ _ _ _ _ _ _ _ _ _ _ _ _ _ _ _ _ _ _ _ _ _ _ _ _ _ _ _ _ _ _ _ _ _ _ _ _ _ _ _ _ _ _ _ _ _ _ _ _ _ _ _ _ _ _ _ _ _ _ _ _ _ _ _ _ _ _ _ _ _ _ _ _ _ _ _ _ _ _ _ _ _ _ _ _ _ _ _ _ _ _ _ _ _ _ _ _ _ _ _ _ _
  intro w4 aA ac hbw hown j0 j1 j3 j4 j5 j8 j11 j13 j14 j15 j16 j17 j18 j19 j20 j21 j22 j23 j24 j25 j26 j27 j28 j29 j30 j31 j32 j33 j34 j35 j36 j37 j38 j39 j40 j41 j42 j43 j44 j45 j46 j47 j48 j49 j50 j51 j52 j53 j54 j55 j56 j57 j58 j59 j60 j61 j62 j63 j64 j65 j66 j67 j68 j69 j70 j71 j72 j73 j74 j75 j76 j77 j78 j79 j80 j81 j82 j83 j84 j85 j86 j87 j88 j89 j90 j91 j92 j93 j94 j95 j96 j97 j98 j99 j100 j101 j102 j103 j104 j105 j106 j107 j108 j109 j110 j111 j112 j113 j114 j115 j116 j117 j118 j119 j120 j121 j122 j123 j124 j125 j126 j127 j128 j129 j130 j131 j132 j133 j134 j135 j136 j137 j138 j139 j140 j141 j142 j143 j144 j145 j146 j147 j148 j149 j150 j151 j152 j153 j154 j155 j156 j157 j158 j159 j160 j161 j162 j163 j164 j165 j166 j167 j168 j169 j170 j171 j172 j173 j174 j175 j176 j177 j178 j179 j180 j181 j182 j183 j184 j185 j186 j187 j188 j189 j190 j191 j192 j193 j194 j195 j196 j197
  have C1':=C0.out.trans (Chg.of_below (F:=fun _=>False) hbw) (fun _ _=>id)
  have hM2:∀k,M2 k→k<u.heap.size:=fun k hk=>Nat.lt_of_lt_of_le (L2.lt k hk) C0.out.size
  refine hK.out _ _ ?_
  have B2:=Bes.new hM2 hown
  have B1:=B1.still intR_flat C1'
  have L2:=L2.still hD C1'
  obtain⟨_,_,ea,ha1,ha2,_⟩:=hown.form
  rw[agesE_len] at ea ha1
  cases ea
  clear hK K hA hl C0 C1' hbw hown hM2
  refine co_seq hZ hX2 ?_
  refine c_region (n:=0) (J:=fun _ a=>Co Try.prog Z 0 (g2.fx Try.prog κL 0) a w4) (Co.calmly hZ hX2) [0,1,2,3,4,5,6] rfl ?_
  refine co_value hZ hX2 (.pointer (some ⟨s,0,none⟩)) rfl rfl (by decide) (fun _=>by simp[go_sem,execOp,Act.eval]) (fun _=>by simp[go_sem,execOp,Act.eval]) ?_
  walk_nrm
  refine co_call2 hZ hX2 rfl rfl (by decide) rfl Try.func12 (by kernel_rfl) (by kernel_rfl) (vals:=#[.pointer (some ⟨s,0,none⟩),.int .i64 1]) (by simp[Act.eval]) ?_
  refine Fair_co hD hZ L2.sch hop (by decide) _ _ fun e X1 v1 hq=> ?_
  obtain⟨rfl,hA⟩:=hq
  rw[hF1.out] at hA⊢
  obtain⟨g1,bs1,M1,rfl,L1,c1,m1⟩:=hA.open hD
  have hX1:=L1.ok
  have B1:=B1.up intR_flat c1 m1
  have B2:=B2.up intR_flat c1 m1
  clear hA c1 m1 L2
  rw[Frame.finish_at]
  walk_nrm
  by_cases hnx:nextS S D.o x=0
  ·rw[if_pos hnx] at L1⊢
   have hE0:=hno.out hnx
   have hi0m:=fairI_mem (S:=S) hE0
   have hi0l:=hel.out _ hi0m
   have hids0:=hids.out _ _ (List.getElem?_eq_getElem hi0l)
   have hT1:=give_turns D (x:=x) (L:=E) (List.getElem?_eq_getElem hi0l)
   rw[hids0] at hT1
   have hop1:(giveS D S x E (fairI S E)).1.closed=false:=by rw[giveS_closed];exact hop
   have hA1:∀j∈E,findS (giveS D S x E (fairI S E)).1 ((j:Int)+1)=0∧ageS (giveS D S x E (fairI S E)).1 ((j:Int)+1)=if j=fairI S E then 0 else ageOf S j+1:=fun j hj=>by
    have hjl:=hel.out j hj
    obtain⟨h1,h2⟩:=age_of hop1 (Nat.lt_of_lt_of_le hjl (give_len D (x:=x) (L:=E) (i:=fairI S E)))
    exact⟨h1,h2.trans (give_age D hi0l hjl hj)⟩
   have hIH:=Hd.mk (fun {g:Gh} {bs:List Nat} {M:Nat→Prop} {w:World} (L:Liv D B g s bs (giveS D S x E (fairI S E)).1 (giveS D S x E (fairI S E)).2 M w)=>IH.out (i+1) (by omega) L hop1)
   generalize(giveS D S x E (fairI S E)).1=S1 at L1 hT1 hop1 hA1 hIH
   generalize(giveS D S x E (fairI S E)).2=x2 at L1 hIH
   refine co_value hZ hX1 (.tuple #[.int .i64 1,.int .i64 0]) rfl rfl (by decide) (fun _=>by simp[go_sem,execOp,Act.eval]) (fun _=>by simp[go_sem,execOp,Act.eval]) ?_
   walk_nrm
   refine co_value hZ hX1 (.int .i64 1) rfl rfl (by decide) (fun _=>by simp[go_sem,execOp,Act.eval]) (fun _=>by simp[go_sem,execOp,Act.eval]) ?_
   walk_nrm
   refine co_value hZ hX1 (.int .i64 0) rfl rfl (by decide) (fun _=>by simp[go_sem,execOp,Act.eval]) (fun _=>by simp[go_sem,execOp,Act.eval]) ?_
   walk_nrm
   refine co_value hZ hX1 (.int .i64 1) rfl rfl (by decide) (fun _=>by simp[go_sem,execOp,Act.eval]) (fun _=>by simp[go_sem,execOp,Act.eval]) ?_
   walk_nrm
   refine co_value hZ hX1 (.int .i64 0) rfl rfl (by decide) (fun _=>by simp[go_sem,execOp,Act.eval]) (fun _=>by simp[go_sem,execOp,Act.eval]) ?_
   walk_nrm
   refine co_region_end hZ hX1 ?_
   refine co_seq hZ hX1 ?_
   refine co_seq hZ hX1 ?_
   refine co_code hZ hX1 TT (by decide) (by kernel_rfl) (by kernel_rfl) fun K hK u hu=> ?_
   go_wp2_with fail
   refine hK.out _ _ (co_same hu ?_)
   clear hK K hu u
   refine co_cond (t:=false) hZ hX1 (by simp[Act.eval]) ?_
   simp only[Bool.false_eq_true,↓reduceIte]
   refine co_skip hZ hX1 ?_
   have hNX:∀{g:Gh} {bs:List Nat} {M:Nat→Prop} {w:World},Liv D B g s bs S1 x2 M w→∀(j0 j1 j3 j4 j5 j8 j10 j11 j12 j13 j14 j15 j16 j17 j18 j19 j20 j21 j22 j23 j24 j25 j26 j27 j28 j29 j30 j31 j32 j33 j34 j35 j36 j37 j38 j39 j40 j41 j42 j43 j44 j45 j46 j47 j48 j49 j50 j51 j52 j53 j54 j55 j56 j57 j58 j59 j60 j61 j62 j63 j64 j65 j66 j67 j68 j69 j70 j71 j72 j73 j74 j75 j76 j77 j78 j79 j80 j81 j82 j83 j84 j85 j86 j87 j88 j89 j90 j91 j92 j93 j94 j95 j96 j97 j98 j99 j100 j101 j102 j103 j104 j105 j106 j107 j108 j109 j110 j111 j112 j113 j114 j115 j116 j117 j118 j119 j120 j121 j122 j123 j124 j125 j126 j127 j128 j129 j130 j131 j132 j133 j134 j135 j136 j137 j138 j139 j140 j141 j142 j143 j144 j145 j146 j147 j148 j149 j150 j151 j152 j153 j154 j155 j156 j157 j158 j159 j160 j161 j162 j163 j164 j165 j166 j167 j168 j169 j170 j171 j172 j173 j174 j175 j176 j177 j178 j179 j180 j181 j182 j183 j184 j185 j186 j187 j188 j189 j190 j191 j192 j193 j194 j195 j196 j197:Value),Co Try.prog Z 0 (g.fx Try.prog κL 0) (G ((Go.Conc.base 7).at ⟨#[j0,j1,.int .u8 (st:Int),j3,j4,j5,.bool false,.pointer (some ⟨s,0,none⟩),j8,.int .i64 (i:Int),j10,j11,j12,j13,j14,j15,j16,j17,j18,j19,j20,j21,j22,j23,j24,j25,j26,j27,j28,j29,j30,j31,j32,j33,j34,j35,j36,j37,j38,j39,j40,j41,j42,j43,j44,j45,j46,j47,j48,j49,j50,j51,j52,j53,j54,j55,j56,j57,j58,j59,j60,j61,j62,j63,j64,j65,j66,j67,j68,j69,j70,j71,j72,j73,j74,j75,j76,j77,j78,j79,j80,j81,j82,j83,j84,j85,j86,j87,j88,j89,j90,j91,j92,j93,j94,j95,j96,j97,j98,j99,j100,j101,j102,j103,j104,j105,j106,j107,j108,j109,j110,j111,j112,j113,j114,j115,j116,j117,j118,j119,j120,j121,j122,j123,j124,j125,j126,j127,j128,j129,j130,j131,j132,j133,j134,j135,j136,j137,j138,j139,j140,j141,j142,j143,j144,j145,j146,j147,j148,j149,j150,j151,j152,j153,j154,j155,j156,j157,j158,j159,j160,j161,j162,j163,j164,j165,j166,j167,j168,j169,j170,j171,j172,j173,j174,j175,j176,j177,j178,j179,j180,j181,j182,j183,j184,j185,j186,j187,j188,j189,j190,j191,j192,j193,j194,j195,j196,j197],[]⟩ [.inBlock 1,.code (sndC (sndC lb7)),.inLoop lb7,.inBlock 0,.code (sndC rest7)]) []) w:=by
    intro g bs M w L j0 j1 j3 j4 j5 j8 j10 j11 j12 j13 j14 j15 j16 j17 j18 j19 j20 j21 j22 j23 j24 j25 j26 j27 j28 j29 j30 j31 j32 j33 j34 j35 j36 j37 j38 j39 j40 j41 j42 j43 j44 j45 j46 j47 j48 j49 j50 j51 j52 j53 j54 j55 j56 j57 j58 j59 j60 j61 j62 j63 j64 j65 j66 j67 j68 j69 j70 j71 j72 j73 j74 j75 j76 j77 j78 j79 j80 j81 j82 j83 j84 j85 j86 j87 j88 j89 j90 j91 j92 j93 j94 j95 j96 j97 j98 j99 j100 j101 j102 j103 j104 j105 j106 j107 j108 j109 j110 j111 j112 j113 j114 j115 j116 j117 j118 j119 j120 j121 j122 j123 j124 j125 j126 j127 j128 j129 j130 j131 j132 j133 j134 j135 j136 j137 j138 j139 j140 j141 j142 j143 j144 j145 j146 j147 j148 j149 j150 j151 j152 j153 j154 j155 j156 j157 j158 j159 j160 j161 j162 j163 j164 j165 j166 j167 j168 j169 j170 j171 j172 j173 j174 j175 j176 j177 j178 j179 j180 j181 j182 j183 j184 j185 j186 j187 j188 j189 j190 j191 j192 j193 j194 j195 j196 j197
    have hX5:=L.ok
    have h:=hIH.out L
    simp only[lb7,rest7,body7,Try.f7,Option.getD_some,fstC,sndC,inC] at h⊢
    clear hIH
    refine co_inBlock hZ hX5 ?_
    refine co_code hZ hX5 TT (by decide) (by kernel_rfl) (by kernel_rfl) fun K hK u hu=> ?_
    go_wp2_with fail
    refine hK.out _ _ (co_same hu ?_)
    clear hK K hu u
    refine co_inLoop hZ hX5 ?_
    exact h _ _ _ _ _ _ _ _ _ _ _ _ _ _ _ _ _ _ _ _ _ _ _ _ _ _ _ _ _ _ _ _ _ _ _ _ _ _ _ _ _ _ _ _ _ _ _ _ _ _ _ _ _ _ _ _ _ _ _ _ _ _ _ _ _ _ _ _ _ _ _ _ _ _ _ _ _ _ _ _ _ _ _ _ _ _ _ _ _ _ _ _ _ _ _ _ _ _ _ _ _ _ _ _ _ _ _ _ _ _ _ _ _ _ _ _ _ _ _ _ _ _ _ _ _ _ _ _ _ _ _ _ _ _ _ _ _ _ _ _ _ _ _ _ _ _ _ _ _ _ _ _ _ _ _ _ _ _ _ _ _ _ _ _ _ _ _ _ _ _ _ _ _ _ _ _ _ _ _ _ _ _ _ _ _ _ _ _ _ _ _ _ _ _
   have hR:=fairs_rest (st:=st) (i:=i) (i0:=fairI S E) hZ hD hop1 (List.length_pos_iff.2 hE0) hel2 ⟨_,_,_,hT1⟩ hA1 (fun j hj=>Nat.lt_of_lt_of_le (hel.out j hj) hfew) hbd.out rfl (Nat.lt_of_lt_of_le hi0l hfew) ⟨hl1,hl2⟩ ⟨ha1,ha2⟩ hNX L1 B1 B2
   simp only[restB,lb7,rest7,body7,Try.f7,Option.getD_some,fstC,sndC,inC] at hR
   exact hR _ _ _ _ _ _ _ _ _ _ _ _ _ _ _ _ _ _ _ _ _ _ _ _ _ _ _ _ _ _ _ _ _ _ _ _ _ _ _ _ _ _ _ _ _ _ _ _ _ _ _ _ _ _ _ _ _ _ _ _ _ _ _ _ _ _ _ _ _ _ _ _ _ _ _ _ _ _ _ _ _ _ _ _ _ _ _ _ _ _ _ _ _ _ _ _ _ _ _ _ _ _ _ _ _ _ _ _ _ _ _ _ _ _ _ _ _ _ _ _ _ _ _ _ _ _ _ _ _ _ _ _ _ _ _ _ _ _ _ _ _ _ _ _ _ _ _ _ _ _ _ _ _ _ _ _ _ _ _ _ _ _ _ _ _ _ _ _ _ _ _ _ _ _ _ _ _ _ _ _ _ _ _ _ _ _ _ _ _ _ _
  ·rw[if_neg hnx] at L1⊢
   have hcs:=hnc.out hnx
   generalize nextS S D.o x=ee at hcs hnx⊢
   clear hno hF1 hnc IH
   refine co_value hZ hX1 (.tuple #[.int .i64 0,.int .i64 ee]) rfl rfl (by decide) (fun _=>by simp[go_sem,execOp,Act.eval]) (fun _=>by simp[go_sem,execOp,Act.eval]) ?_
   walk_nrm
   refine co_value hZ hX1 (.int .i64 0) rfl rfl (by decide) (fun _=>by simp[go_sem,execOp,Act.eval]) (fun _=>by simp[go_sem,execOp,Act.eval]) ?_
   walk_nrm
   refine co_value hZ hX1 (.int .i64 ee) rfl rfl (by decide) (fun _=>by simp[go_sem,execOp,Act.eval]) (fun _=>by simp[go_sem,execOp,Act.eval]) ?_
   walk_nrm
   refine co_value hZ hX1 (.int .i64 0) rfl rfl (by decide) (fun _=>by simp[go_sem,execOp,Act.eval]) (fun _=>by simp[go_sem,execOp,Act.eval]) ?_
   walk_nrm
   refine co_value hZ hX1 (.int .i64 ee) rfl rfl (by decide) (fun _=>by simp[go_sem,execOp,Act.eval]) (fun _=>by simp[go_sem,execOp,Act.eval]) ?_
   walk_nrm
   refine co_region_end hZ hX1 ?_
   refine co_seq hZ hX1 ?_
   refine co_seq hZ hX1 ?_
   refine co_code hZ hX1 TT (by decide) (by kernel_rfl) (by kernel_rfl) fun K hK u hu=> ?_
   go_wp2_with fail
   refine hK.out _ _ (co_same hu ?_)
   clear hK K hu u
   refine co_cond (t:=true) hZ hX1 (by simp[Act.eval,hnx]) ?_
   simp only[↓reduceIte]
   have hop1:=hop
   refine co_seq hZ hX1 ?_
   refine c_region (n:=0) (J:=fun _ a=>Co Try.prog Z 0 (g1.fx Try.prog κL 0) a v1) (Co.calmly hZ hX1) [0,1] rfl ?_
   refine co_value hZ hX1 (.pointer (some ⟨s,0,none⟩)) rfl rfl (by decide) (fun _=>by simp[go_sem,execOp,Act.eval]) (fun _=>by simp[go_sem,execOp,Act.eval]) ?_
   walk_nrm
   refine co_call2 hZ hX1 rfl rfl (by decide) rfl Try.func15 (by kernel_rfl) (by kernel_rfl) (vals:=#[.pointer (some ⟨s,0,none⟩)]) (by simp[Act.eval]) ?_
   refine Close_co hD hZ L1.sch hop1 _ _ fun e X3 v3 hq=> ?_
   obtain⟨rfl,g3,rfl,L3,hC,c3⟩:=hq
   have KP:Kp v.heap.size v v3:=by
    obtain⟨_,_,_,_,hm,_⟩:=hC
    exact hkp _ _ _ hm
   have hX3:=L3.ok.fx κL_ok
   rw[Frame.finish_at]
   walk_nrm
   refine co_region_end hZ hX3 ?_
   refine co_seq hZ hX3 ?_
   rcases hcs with rfl|⟨rfl,rfl⟩
   ·skip
    refine c_region (n:=0) (J:=fun _ a=>Co Try.prog Z 0 (g3.fx Try.prog κL 0) a v3) (Co.calmly hZ hX3) [0,1,2,3,4,5,6,7,8,9,10,11,12,13,14,15,16,17,18] rfl ?_
    refine co_value hZ hX3 (.int .i64 0) rfl rfl (by decide) (fun _=>by simp[go_sem,execOp,Act.eval]) (fun _=>by simp[go_sem,execOp,Act.eval]) ?_
    walk_nrm
    refine co_value hZ hX3 (.bool true) rfl rfl (by decide) (fun _=>by simp[go_sem,execOp,Act.eval]) (fun _=>by simp[go_sem,execOp,Act.eval]) ?_
    walk_nrm
    refine co_value hZ hX3 (.bool true) rfl rfl (by decide) (fun _=>by simp[go_sem,execOp,Act.eval]) (fun _=>by simp[go_sem,execOp,Act.eval]) ?_
    walk_nrm
    refine co_value hZ hX3 (.int .i64 3) rfl rfl (by decide) (fun _=>by simp[go_sem,execOp,Act.eval]) (fun _=>by simp[go_sem,execOp,Act.eval]) ?_
    walk_nrm
    refine co_value hZ hX3 (.bool false) rfl rfl (by decide) (fun _=>by simp[go_sem,execOp,Act.eval]) (fun _=>by simp[go_sem,execOp,Act.eval]) ?_
    walk_nrm
    refine co_value hZ hX3 (.bool false) rfl rfl (by decide) (fun _=>by simp[go_sem,execOp,Act.eval]) (fun _=>by simp[go_sem,execOp,Act.eval]) ?_
    walk_nrm
    refine co_unwanted hZ hX3 rfl rfl ?_
    walk_nrm
    refine co_unwanted hZ hX3 rfl rfl ?_
    walk_nrm
    refine co_unwanted hZ hX3 rfl rfl ?_
    walk_nrm
    refine co_value hZ hX3 (.bool false) rfl rfl (by decide) (fun _=>by simp[go_sem,execOp,Act.eval]) (fun _=>by simp[go_sem,execOp,Act.eval]) ?_
    walk_nrm
    refine co_value hZ hX3 (.bool false) rfl rfl (by decide) (fun _=>by simp[go_sem,execOp,Act.eval]) (fun _=>by simp[go_sem,execOp,Act.eval]) ?_
    walk_nrm
    refine co_value hZ hX3 (.int .i64 3) rfl rfl (by decide) (fun _=>by simp[go_sem,execOp,Act.eval]) (fun _=>by simp[go_sem,execOp,Act.eval]) ?_
    walk_nrm
    refine co_value hZ hX3 (.bool true) rfl rfl (by decide) (fun _=>by simp[go_sem,execOp,Act.eval]) (fun _=>by simp[go_sem,execOp,Act.eval]) ?_
    walk_nrm
    refine co_value hZ hX3 (.bool true) rfl rfl (by decide) (fun _=>by simp[go_sem,execOp,Act.eval]) (fun _=>by simp[go_sem,execOp,Act.eval]) ?_
    walk_nrm
    refine co_value hZ hX3 (.bool true) rfl rfl (by decide) (fun _=>by simp[go_sem,execOp,Act.eval]) (fun _=>by simp[go_sem,execOp,Act.eval]) ?_
    walk_nrm
    refine co_value hZ hX3 (.bool true) rfl rfl (by decide) (fun _=>by simp[go_sem,execOp,Act.eval]) (fun _=>by simp[go_sem,execOp,Act.eval]) ?_
    walk_nrm
    refine co_call2 hZ hX3 rfl rfl (by decide) rfl Try.func11 (by kernel_rfl) (by kernel_rfl) (vals:=#[]) (by simp[Act.eval]) ?_
    refine awake_co hZ L3 _ _ fun e X9 v9 hq9=> ?_
    obtain⟨rfl,⟨g9,rfl,L9⟩,c9⟩:=hq9
    have hX9:=L9.ok.fx κL_ok
    rw[Frame.finish_at]
    walk_nrm
    refine co_value hZ hX9 (.bool true) rfl rfl (by decide) (fun _=>by simp[go_sem,execOp,Act.eval]) (fun _=>by simp[go_sem,execOp,Act.eval]) ?_
    walk_nrm
    refine co_value hZ hX9 (.bool true) rfl rfl (by decide) (fun _=>by simp[go_sem,execOp,Act.eval]) (fun _=>by simp[go_sem,execOp,Act.eval]) ?_
    walk_nrm
    refine co_region_end hZ hX9 ?_
    refine co_ret hZ hX9 ?_
    exact fin_leave hF L9 (KP.still c9).out rfl rfl Try.func7 (fun w=>by simp[results,Try.results7,go_sem]) (fun w=>by simp[results,Try.results7,go_sem]) (by kernel_rfl)
   ·skip
    refine c_region (n:=0) (J:=fun _ a=>Co Try.prog Z 0 (g3.fx Try.prog κL 0) a v3) (Co.calmly hZ hX3) [0,1,2,3,4,5,6,7,8,9,10,11,12,13,14,15,16,17,18] rfl ?_
    refine co_value hZ hX3 (.int .i64 0) rfl rfl (by decide) (fun _=>by simp[go_sem,execOp,Act.eval]) (fun _=>by simp[go_sem,execOp,Act.eval]) ?_
    walk_nrm
    refine co_value hZ hX3 (.bool true) rfl rfl (by decide) (fun _=>by simp[go_sem,execOp,Act.eval]) (fun _=>by simp[go_sem,execOp,Act.eval]) ?_
    walk_nrm
    refine co_value hZ hX3 (.bool true) rfl rfl (by decide) (fun _=>by simp[go_sem,execOp,Act.eval]) (fun _=>by simp[go_sem,execOp,Act.eval]) ?_
    walk_nrm
    refine co_value hZ hX3 (.int .i64 4) rfl rfl (by decide) (fun _=>by simp[go_sem,execOp,Act.eval]) (fun _=>by simp[go_sem,execOp,Act.eval]) ?_
    walk_nrm
    refine co_value hZ hX3 (.bool true) rfl rfl (by decide) (fun _=>by simp[go_sem,execOp,Act.eval]) (fun _=>by simp[go_sem,execOp,Act.eval]) ?_
    walk_nrm
    refine co_value hZ hX3 (.bool true) rfl rfl (by decide) (fun _=>by simp[go_sem,execOp,Act.eval]) (fun _=>by simp[go_sem,execOp,Act.eval]) ?_
    walk_nrm
    refine co_value hZ hX3 (.slice lA 0 lc) rfl rfl (by decide) (fun _=>by simp[go_sem,execOp,Act.eval]) (fun _=>by simp[go_sem,execOp,Act.eval]) ?_
    walk_nrm
    refine co_op hZ hX3 TT.toTable (by decide) (R:=fun y u=>y=.int .i64 0∧Same u v3) rfl rfl (by kernel_rfl) (fun u hu=>⟨.int .i64 0,u, ?_,rfl,hu⟩) (fun y u hh=> ?_)
    ·simp[go_sem,execOp,Act.eval]
    obtain⟨rfl,hu⟩:=hh
    refine co_same hu ?_
    clear hu u
    walk_nrm
    refine co_value hZ hX3 (.bool true) rfl rfl (by decide) (fun _=>by simp[go_sem,execOp,Act.eval]) (fun _=>by simp[go_sem,execOp,Act.eval]) ?_
    walk_nrm
    refine co_value hZ hX3 (.bool true) rfl rfl (by decide) (fun _=>by simp[go_sem,execOp,Act.eval]) (fun _=>by simp[go_sem,execOp,Act.eval]) ?_
    walk_nrm
    refine co_value hZ hX3 (.bool true) rfl rfl (by decide) (fun _=>by simp[go_sem,execOp,Act.eval]) (fun _=>by simp[go_sem,execOp,Act.eval]) ?_
    walk_nrm
    refine co_unwanted hZ hX3 rfl rfl ?_
    walk_nrm
    refine co_unwanted hZ hX3 rfl rfl ?_
    walk_nrm
    refine co_value hZ hX3 (.bool true) rfl rfl (by decide) (fun _=>by simp[go_sem,execOp,Act.eval]) (fun _=>by simp[go_sem,execOp,Act.eval]) ?_
    walk_nrm
    refine co_value hZ hX3 (.bool true) rfl rfl (by decide) (fun _=>by simp[go_sem,execOp,Act.eval]) (fun _=>by simp[go_sem,execOp,Act.eval]) ?_
    walk_nrm
    refine co_value hZ hX3 (.bool true) rfl rfl (by decide) (fun _=>by simp[go_sem,execOp,Act.eval]) (fun _=>by simp[go_sem,execOp,Act.eval]) ?_
    walk_nrm
    refine co_call2 hZ hX3 rfl rfl (by decide) rfl Try.func11 (by kernel_rfl) (by kernel_rfl) (vals:=#[]) (by simp[Act.eval]) ?_
    refine awake_co hZ L3 _ _ fun e X9 v9 hq9=> ?_
    obtain⟨rfl,⟨g9,rfl,L9⟩,c9⟩:=hq9
    have hX9:=L9.ok.fx κL_ok
    rw[Frame.finish_at]
    walk_nrm
    refine co_value hZ hX9 (.bool true) rfl rfl (by decide) (fun _=>by simp[go_sem,execOp,Act.eval]) (fun _=>by simp[go_sem,execOp,Act.eval]) ?_
    walk_nrm
    refine co_value hZ hX9 (.bool true) rfl rfl (by decide) (fun _=>by simp[go_sem,execOp,Act.eval]) (fun _=>by simp[go_sem,execOp,Act.eval]) ?_
    walk_nrm
    refine co_region_end hZ hX9 ?_
    refine co_ret hZ hX9 ?_
    exact fin_leave hF L9 (KP.still c9).out rfl rfl Try.func7 (fun w=>by simp[results,Try.results7,go_sem]) (fun w=>by simp[results,Try.results7,go_sem]) (by kernel_rfl)
set_option maxRecDepth 100000 in
set_option maxHeartbeats 8000000 in
theorem fairl_co {v:World} {p:Pn} {kv fv pv:Value} {pk:List Int} {n:Int} (H:LawP v p kv fv pv pk) (hn:0≤n∧n<256):LawCo 7 #[.agg #[kv,fv,.int .i64 p.most],pv,.int .u8 n] v:=by
 obtain⟨st,rfl⟩:∃st:Nat,n=(st:Int):=⟨n.toNat,by omega⟩
 intro Z g hZ L hF
 have hX:=L.ok.fx κL_ok
 obtain⟨kA,kc,rfl,k1,k2,_⟩:=H.pn.ks.open
 obtain⟨fA,fc,rfl,f1,f2,_⟩:=H.pn.fs.open
 have HH:=Hd.mk H
 clear H
 rw[enter_at _ Try.func7 (by kernel_rfl:Try.f7.body=some body7),Try.ntmps7]
 walk_nrm
 simp only[body7,Try.f7,Option.getD_some]
 refine co_seq hZ hX ?_
 refine co_code hZ hX TT (by decide) (by kernel_rfl) (by kernel_rfl) fun K hK u hu=> ?_
 have hz0:u.heap.size=v.heap.size:=by rw[hu.heap]
 go_wp2_with fail
 refine hK.out _ _ (co_same (hu.alloc _) ?_)
 clear hK K hu hz0 u
 refine at_world (fun y=>Chg (fun _=>False) v y∧Cells y v.heap.size [.slice kA p.ks.length kc,.slice fA p.fs.length fc,.int .i64 p.most]) ⟨Chg.alloc _ _ _,Cells.new v [.slice kA p.ks.length kc,.slice fA p.fs.length fc,.int .i64 p.most] 25⟩ fun x1 hx1=> ?_
 have C1:=Hd.mk hx1.1
 have BX:=Hd.mk hx1.2
 clear hx1
 refine co_seq hZ hX ?_
 refine c_region (n:=0) (J:=fun _ a=>Co Try.prog Z 0 (g.fx Try.prog κL 0) a x1) (Co.calmly hZ hX) [0,1,2,3,4,5,6,7] rfl ?_
 refine co_op hZ hX TT.toTable (by decide) (R:=fun y u=>y=.agg #[.slice kA p.ks.length kc,.slice fA p.fs.length fc,.int .i64 p.most]∧Same u x1) rfl rfl (by kernel_rfl) (fun u hu=>⟨.agg #[.slice kA p.ks.length kc,.slice fA p.fs.length fc,.int .i64 p.most],u, ?_,rfl,hu⟩) (fun y u hh=> ?_)
 ·have d0:u.cell? ⟨v.heap.size,0,none⟩=some (.slice kA p.ks.length kc):=(by unfold World.cell?;rw[hu.heap];exact BX.out.c 0 _ rfl)
  have d1:u.cell? ⟨v.heap.size,1,none⟩=some (.slice fA p.fs.length fc):=(by unfold World.cell?;rw[hu.heap];exact BX.out.c 1 _ rfl)
  have d2:u.cell? ⟨v.heap.size,2,none⟩=some (.int .i64 p.most):=(by unfold World.cell?;rw[hu.heap];exact BX.out.c 2 _ rfl)
  simp[go_sem,execOp,Act.eval,d0,d1,d2]
 obtain⟨rfl,hu⟩:=hh
 refine co_same hu ?_
 clear hu u
 walk_nrm
 refine co_value hZ hX (pv) rfl rfl (by decide) (fun _=>by simp[go_sem,execOp,Act.eval]) (fun _=>by simp[go_sem,execOp,Act.eval]) ?_
 walk_nrm
 refine co_call2 hZ hX rfl rfl (by decide) rfl Try.func10 (by kernel_rfl) (by kernel_rfl) (vals:=#[.agg #[.slice kA p.ks.length kc,.slice fA p.fs.length fc,.int .i64 p.most],pv]) (by simp[Act.eval]) ?_
 refine HH.out.played hZ L C1.out _ _ fun e X2 v2 hq=> ?_
 cases hpb:plBad p pk with
 |true=>
  obtain⟨rfl,⟨g2,rfl,L2⟩,c2⟩:=hq.bad hpb
  have hX2:=L2.ok.fx κL_ok
  have C2:=C1.out.trans c2 (fun _ _=>id)
  rw[Frame.finish_at]
  walk_nrm
  refine co_value hZ hX2 (.tuple #[.pointer none,.pointer none]) rfl rfl (by decide) (fun _=>by simp[go_sem,execOp,Act.eval]) (fun _=>by simp[go_sem,execOp,Act.eval]) ?_
  walk_nrm
  refine co_value hZ hX2 (.pointer none) rfl rfl (by decide) (fun _=>by simp[go_sem,execOp,Act.eval]) (fun _=>by simp[go_sem,execOp,Act.eval]) ?_
  walk_nrm
  refine co_value hZ hX2 (.pointer none) rfl rfl (by decide) (fun _=>by simp[go_sem,execOp,Act.eval]) (fun _=>by simp[go_sem,execOp,Act.eval]) ?_
  walk_nrm
  refine co_value hZ hX2 (.pointer none) rfl rfl (by decide) (fun _=>by simp[go_sem,execOp,Act.eval]) (fun _=>by simp[go_sem,execOp,Act.eval]) ?_
  walk_nrm
  refine co_value hZ hX2 (.pointer none) rfl rfl (by decide) (fun _=>by simp[go_sem,execOp,Act.eval]) (fun _=>by simp[go_sem,execOp,Act.eval]) ?_
  walk_nrm
  refine co_region_end hZ hX2 ?_
  refine co_seq hZ hX2 ?_
  refine co_seq hZ hX2 ?_
  refine co_code hZ hX2 TT (by decide) (by kernel_rfl) (by kernel_rfl) fun K hK u hu=> ?_
  go_wp2_with fail
  refine hK.out _ _ (co_same hu ?_)
  clear hK K hu u
  refine co_cond (t:=true) hZ hX2 (by simp[Act.eval]) ?_
  simp only[↓reduceIte]
  refine co_seq hZ hX2 ?_
  refine c_region (n:=0) (J:=fun _ a=>Co Try.prog Z 0 (g2.fx Try.prog κL 0) a v2) (Co.calmly hZ hX2) [0,1] rfl ?_
  refine co_call2 hZ hX2 rfl rfl (by decide) rfl Try.func11 (by kernel_rfl) (by kernel_rfl) (vals:=#[]) (by simp[Act.eval]) ?_
  refine awake_co hZ L2 _ _ fun e X9 v9 hq9=> ?_
  obtain⟨rfl,⟨g9,rfl,L9⟩,c9⟩:=hq9
  have hX9:=L9.ok.fx κL_ok
  rw[Frame.finish_at]
  walk_nrm
  refine co_value hZ hX9 (.bool true) rfl rfl (by decide) (fun _=>by simp[go_sem,execOp,Act.eval]) (fun _=>by simp[go_sem,execOp,Act.eval]) ?_
  walk_nrm
  refine co_region_end hZ hX9 ?_
  refine co_ret hZ hX9 ?_
  exact fin_leave hF L9 (C2.trans c9 (fun _ _=>id)) rfl rfl Try.func7 (fun w=>by simp[results,Try.results7,go_sem]) (fun w=>by simp[results,Try.results7,go_sem]) (by kernel_rfl)
 |false=>
  obtain⟨s,b,B,g2,bs2,M2,rfl,rfl,hD,L2,hop,c2,_⟩:=hq.good HH.out hpb
  have hX2:=L2.ok
  rw[Frame.finish_at]
  walk_nrm
  refine co_value hZ hX2 (.tuple #[.pointer (some ⟨s,0,none⟩),.pointer (some ⟨b,0,none⟩)]) rfl rfl (by decide) (fun _=>by simp[go_sem,execOp,Act.eval]) (fun _=>by simp[go_sem,execOp,Act.eval]) ?_
  walk_nrm
  refine co_value hZ hX2 (.pointer (some ⟨s,0,none⟩)) rfl rfl (by decide) (fun _=>by simp[go_sem,execOp,Act.eval]) (fun _=>by simp[go_sem,execOp,Act.eval]) ?_
  walk_nrm
  refine co_value hZ hX2 (.pointer (some ⟨b,0,none⟩)) rfl rfl (by decide) (fun _=>by simp[go_sem,execOp,Act.eval]) (fun _=>by simp[go_sem,execOp,Act.eval]) ?_
  walk_nrm
  refine co_value hZ hX2 (.pointer (some ⟨s,0,none⟩)) rfl rfl (by decide) (fun _=>by simp[go_sem,execOp,Act.eval]) (fun _=>by simp[go_sem,execOp,Act.eval]) ?_
  walk_nrm
  refine co_value hZ hX2 (.pointer (some ⟨b,0,none⟩)) rfl rfl (by decide) (fun _=>by simp[go_sem,execOp,Act.eval]) (fun _=>by simp[go_sem,execOp,Act.eval]) ?_
  walk_nrm
  refine co_region_end hZ hX2 ?_
  refine co_seq hZ hX2 ?_
  refine co_seq hZ hX2 ?_
  refine co_code hZ hX2 TT (by decide) (by kernel_rfl) (by kernel_rfl) fun K hK u hu=> ?_
  go_wp2_with fail
  refine hK.out _ _ (co_same hu ?_)
  clear hK K hu u
  refine co_cond (t:=false) hZ hX2 (by simp[Act.eval]) ?_
  simp only[Bool.false_eq_true,↓reduceIte]
  refine co_skip hZ hX2 ?_
  clear hq c2 C1 BX
  clear hpb HH
  generalize plS (DW v b (.slice kA p.ks.length kc) p.ks) p pk=S at L2 hop
  generalize plX (DW v b (.slice kA p.ks.length kc) p.ks) p pk=x at L2
  have hkp:∀x F w,(DW v b (.slice kA p.ks.length kc) p.ks).mem x F w→Kp v.heap.size v w:=fun _ _ _ h=>DW_kp h
  generalize DW v b (.slice kA p.ks.length kc) p.ks=D at hD L2 hkp
  refine co_seq hZ hX2 ?_
  refine co_seq hZ hX2 ?_
  refine co_code hZ hX2 TT (by decide) (by kernel_rfl) (by kernel_rfl) fun K hK u hu=> ?_
  go_wp2_with fail
  refine hK.out _ _ (co_same hu ?_)
  clear hK K hu u
  refine co_block hZ hX2 ?_
  refine co_loop hZ hX2 ?_
  have h:=fairs_loop (st:=st) hZ hF hD hkp (by omega) (st%100) 0 (by omega) L2 hop
  simp only[lb7,rest7,body7,Try.f7,Option.getD_some,fstC,sndC,inC] at h
  exact h _ _ _ _ _ _ _ _ _ _ _ _ _ _ _ _ _ _ _ _ _ _ _ _ _ _ _ _ _ _ _ _ _ _ _ _ _ _ _ _ _ _ _ _ _ _ _ _ _ _ _ _ _ _ _ _ _ _ _ _ _ _ _ _ _ _ _ _ _ _ _ _ _ _ _ _ _ _ _ _ _ _ _ _ _ _ _ _ _ _ _ _ _ _ _ _ _ _ _ _ _ _ _ _ _ _ _ _ _ _ _ _ _ _ _ _ _ _ _ _ _ _ _ _ _ _ _ _ _ _ _ _ _ _ _ _ _ _ _ _ _ _ _ _ _ _ _ _ _ _ _ _ _ _ _ _ _ _ _ _ _ _ _ _ _ _ _ _ _ _ _ _ _ _ _ _ _ _ _ _ _ _ _ _ _ _ _ _ _ _ _ _ _ _
end Co
end Go.Proofs.Ytlngbdggehghgaa
