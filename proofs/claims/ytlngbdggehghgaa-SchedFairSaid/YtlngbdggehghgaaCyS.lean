/-
  The second half of a round of the law SchedFair, in company. Conditions: as each theorem says.
-/
import Derived.Test.YtlngbdggehghgaaCyJ
import Derived.Test.YtlngbdggehghgaaCyP
namespace Go.Proofs.Ytlngbdggehghgaa
set_option linter.unusedSimpArgs false
set_option linter.unusedVariables false
namespace Co
open Go.Conc Go.RowKit
noncomputable def body7:Code:=Try.f7.body.getD .skip
noncomputable def rest7:Code:=sndC (sndC (sndC body7))
noncomputable def lb7:Code:=inC (inC (sndC (fstC rest7)))
noncomputable def restB:Code:=sndC (sndC (sndC (sndC (sndC (sndC (inC (fstC (sndC lb7))))))))
theorem last_at {α:Type} {R:Rep α} {w:World} {A:Option Addr} {n c:Nat} {T:List α} {y:α} (h:Sl R w (.slice A n c) (T++[y])):∃b off cs,A=some ⟨b,off,none⟩∧b<w.heap.size∧R.is w cs y∧At w b (off+T.length*R.size) cs∧n=T.length+1:=by
 have hk:T.length<(T++[y]).length:=by simp
 obtain⟨b,off,cs,h1,h2,h3,h4⟩:=h.at_ hk
 obtain⟨A',c',e,_⟩:=h
 cases e
 exact⟨b,off,cs,h1,h2,by simpa using h3,h4,by simp⟩
set_option maxRecDepth 100000 in
set_option maxHeartbeats 8000000 in
theorem fairs_rest {Z:Goal} {D:Wd} {B s:Nat} {st i:Nat} {E:List Nat} {S S1:SS} {x1:RW} {i0:Nat} {lA aA:Option Addr} {lc ac:Nat} (hZ:Z.Ok Try.prog) (hD:Wd.Ok D) (hop1:S1.closed=false) (h0:0<E.length) (h200:E.length≤200)
 (hT1:∃T0 w0 na,S1.turns=T0++[⟨(i0:Int)+1,w0,na⟩]) (hA1:∀j∈E,findS S1 ((j:Int)+1)=0∧ageS S1 ((j:Int)+1)=if j=i0 then 0 else ageOf S j+1) (hel:∀j∈E,j<200) (hbd:∀j,0≤ageOf S j∧ageOf S j≤20000) (hi0:fairI S E=i0) (hi2:i0<200) (hlc:E.length≤lc∧lc≤9223372036854775807) (hac:E.length≤ac∧ac≤9223372036854775807)
 (hnext:∀{g:Gh} {bs:List Nat} {M:Nat→Prop} {w:World},Liv D B g s bs S1 x1 M w→∀(j0 j1 j3 j4 j5 j8 j10 j11 j12 j13 j14 j15 j16 j17 j18 j19 j20 j21 j22 j23 j24 j25 j26 j27 j28 j29 j30 j31 j32 j33 j34 j35 j36 j37 j38 j39 j40 j41 j42 j43 j44 j45 j46 j47 j48 j49 j50 j51 j52 j53 j54 j55 j56 j57 j58 j59 j60 j61 j62 j63 j64 j65 j66 j67 j68 j69 j70 j71 j72 j73 j74 j75 j76 j77 j78 j79 j80 j81 j82 j83 j84 j85 j86 j87 j88 j89 j90 j91 j92 j93 j94 j95 j96 j97 j98 j99 j100 j101 j102 j103 j104 j105 j106 j107 j108 j109 j110 j111 j112 j113 j114 j115 j116 j117 j118 j119 j120 j121 j122 j123 j124 j125 j126 j127 j128 j129 j130 j131 j132 j133 j134 j135 j136 j137 j138 j139 j140 j141 j142 j143 j144 j145 j146 j147 j148 j149 j150 j151 j152 j153 j154 j155 j156 j157 j158 j159 j160 j161 j162 j163 j164 j165 j166 j167 j168 j169 j170 j171 j172 j173 j174 j175 j176 j177 j178 j179 j180 j181 j182 j183 j184 j185 j186 j187 j188 j189 j190 j191 j192 j193 j194 j195 j196 j197:Value),Co Try.prog Z 0 (g.fx Try.prog κL 0) (G ((Go.Conc.base 7).at ⟨#[j0,j1,.int .u8 (st:Int),j3,j4,j5,.bool false,.pointer (some ⟨s,0,none⟩),j8,.int .i64 (i:Int),j10,j11,j12,j13,j14,j15,j16,j17,j18,j19,j20,j21,j22,j23,j24,j25,j26,j27,j28,j29,j30,j31,j32,j33,j34,j35,j36,j37,j38,j39,j40,j41,j42,j43,j44,j45,j46,j47,j48,j49,j50,j51,j52,j53,j54,j55,j56,j57,j58,j59,j60,j61,j62,j63,j64,j65,j66,j67,j68,j69,j70,j71,j72,j73,j74,j75,j76,j77,j78,j79,j80,j81,j82,j83,j84,j85,j86,j87,j88,j89,j90,j91,j92,j93,j94,j95,j96,j97,j98,j99,j100,j101,j102,j103,j104,j105,j106,j107,j108,j109,j110,j111,j112,j113,j114,j115,j116,j117,j118,j119,j120,j121,j122,j123,j124,j125,j126,j127,j128,j129,j130,j131,j132,j133,j134,j135,j136,j137,j138,j139,j140,j141,j142,j143,j144,j145,j146,j147,j148,j149,j150,j151,j152,j153,j154,j155,j156,j157,j158,j159,j160,j161,j162,j163,j164,j165,j166,j167,j168,j169,j170,j171,j172,j173,j174,j175,j176,j177,j178,j179,j180,j181,j182,j183,j184,j185,j186,j187,j188,j189,j190,j191,j192,j193,j194,j195,j196,j197],[]⟩ [.inBlock 1,.code (sndC (sndC lb7)),.inLoop lb7,.inBlock 0,.code (sndC rest7)]) []) w)
 {g1:Gh} {bs1:List Nat} {M1:Nat→Prop} {v1:World} (L1:Liv D B g1 s bs1 S1 x1 M1 v1) (B1:Bes intR M1 v1 (.slice lA E.length lc) (nums E)) (B2:Bes intR M1 v1 (.slice aA E.length ac) (agesE S E)) (j0 j1 j3 j4 j5 j8 j11 j13 j14 j15 j17 j18 j19 j20 j21 j22 j23 j24 j25 j26 j27 j28 j29 j30 j31 j32 j33 j34 j35 j36 j37 j38 j39 j40 j41 j42 j43 j44 j45 j46 j47 j48 j49 j50 j51 j52 j53 j54 j55 j56 j57 j58 j59 j60 j61 j62 j63 j64 j65 j66 j67 j68 j69 j70 j71 j72 j73 j74 j75 j76 j77 j78 j79 j80 j81 j82 j83 j84 j85 j86 j87 j88 j89 j90 j91 j92 j93 j94 j95 j96 j97 j98 j99 j100 j101 j102 j103 j104 j105 j106 j107 j108 j109 j110 j111 j112 j113 j114 j115 j116 j117 j118 j119 j120 j121 j122 j123 j124 j125 j126 j127 j128 j129 j130 j131 j132 j133 j134 j135 j136 j137 j138 j139 j140 j141 j142 j143 j144 j145 j146 j147 j148 j149 j150 j151 j152 j153 j154 j155 j156 j157 j158 j159 j160 j161 j162 j163 j164 j165 j166 j167 j168 j169 j170 j171 j172 j173 j174 j175 j176 j177 j178 j179 j180 j181 j182 j183 j184 j185 j186 j187 j188 j189 j190 j191 j192 j193 j194 j195 j196 j197:Value):
 Co Try.prog Z 0 (g1.fx Try.prog κL 0) (G ((Go.Conc.base 7).at ⟨#[j0,j1,.int .u8 (st:Int),j3,j4,j5,.bool false,.pointer (some ⟨s,0,none⟩),j8,.int .i64 (i:Int),.slice lA E.length lc,j11,.slice aA E.length ac,j13,j14,j15,.int .i64 1,j17,j18,j19,j20,j21,j22,j23,j24,j25,j26,j27,j28,j29,j30,j31,j32,j33,j34,j35,j36,j37,j38,j39,j40,j41,j42,j43,j44,j45,j46,j47,j48,j49,j50,j51,j52,j53,j54,j55,j56,j57,j58,j59,j60,j61,j62,j63,j64,j65,j66,j67,j68,j69,j70,j71,j72,j73,j74,j75,j76,j77,j78,j79,j80,j81,j82,j83,j84,j85,j86,j87,j88,j89,j90,j91,j92,j93,j94,j95,j96,j97,j98,j99,j100,j101,j102,j103,j104,j105,j106,j107,j108,j109,j110,j111,j112,j113,j114,j115,j116,j117,j118,j119,j120,j121,j122,j123,j124,j125,j126,j127,j128,j129,j130,j131,j132,j133,j134,j135,j136,j137,j138,j139,j140,j141,j142,j143,j144,j145,j146,j147,j148,j149,j150,j151,j152,j153,j154,j155,j156,j157,j158,j159,j160,j161,j162,j163,j164,j165,j166,j167,j168,j169,j170,j171,j172,j173,j174,j175,j176,j177,j178,j179,j180,j181,j182,j183,j184,j185,j186,j187,j188,j189,j190,j191,j192,j193,j194,j195,j196,j197],[]⟩ [.code restB,.inBlock 1,.code (sndC (sndC lb7)),.inLoop lb7,.inBlock 0,.code (sndC rest7)]) []) v1:=by
 have hX1:=L1.ok
 have HN:=Hd.mk @hnext
 have hr0:readyS S1=0:=by unfold readyS;rw[hop1];rfl
 have hT1:=Lib.hid hT1
 have hA1:=Lib.hid hA1
 have hel:=Lib.hid hel
 have hbd:=Lib.hid hbd
 obtain⟨hlc1,hlc2⟩:=hlc
 obtain⟨hac1,hac2⟩:=hac
 have hi0:=Lib.hid hi0
 clear hnext
 simp only[restB,lb7,rest7,body7,Try.f7,Option.getD_some,fstC,sndC,inC] at HN⊢
 refine co_seq hZ hX1 ?_
 refine co_code hZ hX1 TT (by decide) (by kernel_rfl) (by kernel_rfl) fun K hK u hu=> ?_
 have C0:=same_chg (F:=fun _=>False) hu
 obtain⟨tv,uv,PP⟩:=L1.pl hD C0
 have R:=(Log_any PP.sm).mono (fun e w h=>by rw[hr0,hop1,if_neg (by decide)] at h;exact h)
 have R:=Lib.hid R
 have C0:=Hd.mk C0
 have hlt:=Hd.mk (fun k (hk:M1 k)=>(show k<u.heap.size by rw[hu.heap];exact L1.lt k hk))
 clear hu PP
 go_wp2_with (go_at_call 20;refine R.out.mono ?_;rintro e w2 ⟨lg,rfl,hown,hb⟩;obtain⟨gA,gc,rfl,hg1,hg2,_⟩:=hown.form;have HO:=Hd.mk hown;clear hown;have HB:=Hd.mk hb;clear hb)
 refine hK.out _ _ ?_
 have C1':=C0.out.trans (Chg.of_below (F:=fun _=>False) HB.out) (fun _ _=>id)
 have L1:=L1.still hD C1'
 have B3:=Bes.new hlt.out HO.out
 have B1:=B1.still intR_flat C1'
 have B2:=B2.still intR_flat C1'
 clear HO
 clear hK K R C0 HB C1' hlt
 obtain⟨T0,w0,na,hT⟩:=hT1.out
 have hcnt:T0.length+1≤20000:=by
  obtain⟨_,_,h⟩:=L1.pl hD (Chg.refl _ _)
  have h1:=h.sm.ok.cnt
  have h2:=h.sm.ok.most
  rw[hT,List.length_append,List.length_singleton] at h1
  omega
 have hlen:S1.turns.length=T0.length+1:=by rw[hT];simp
 rw[hlen] at hg1 B3⊢
 rw[hT] at B3
 clear hT hlen hT1
 refine co_seq hZ hX1 ?_
 refine co_seq hZ hX1 ?_
 refine co_code hZ hX1 TT (by decide) (by kernel_rfl) (by kernel_rfl) fun K hK u hu=> ?_
 go_wp2_with fail
 refine hK.out _ _ (co_same hu ?_)
 clear hK K hu u
 refine co_cond (t:=false) hZ hX1 (by simp[Act.eval]<;>omega) ?_
 simp only[Bool.false_eq_true,↓reduceIte]
 refine co_skip hZ hX1 ?_
 refine co_seq hZ hX1 ?_
 refine co_code hZ hX1 TT (by decide) (by kernel_rfl) (by kernel_rfl) fun K hK u hu=> ?_
 obtain⟨lb,lo,cs,rfl,hlb,hcs,hat,_⟩:=last_at (B3.sl.chg tnR_flat (same_chg (F:=fun _=>False) hu) (fun _ _=>id))
 have d0:=hat 0 _ (by rw[show cs=_ from hcs];rfl)
 simp only[tnR,Nat.add_zero] at d0
 suffices hM:∀(j0 j1 j3 j4 j5 j8 j11 j13 j14 j15 j16 j17 j19 j20 j21 j22 j23 j24 j25 j26 j27 j28 j29 j30 j31 j32 j33 j34 j35 j36 j37 j38 j39 j40 j41 j42 j43 j44 j45 j46 j47 j48 j49 j50 j51 j52 j53 j54 j55 j56 j57 j58 j59 j60 j61 j62 j63 j64 j65 j66 j67 j68 j69 j70 j71 j72 j73 j74 j75 j76 j77 j78 j79 j80 j81 j82 j83 j84 j85 j86 j87 j88 j89 j90 j91 j92 j93 j94 j95 j96 j97 j98 j99 j100 j101 j102 j103 j104 j105 j106 j107 j108 j109 j110 j111 j112 j113 j114 j115 j116 j117 j118 j119 j120 j121 j122 j123 j124 j125 j126 j127 j128 j129 j130 j131 j132 j133 j134 j135 j136 j137 j138 j139 j140 j141 j142 j143 j144 j145 j146 j147 j148 j149 j150 j151 j152 j153 j154 j155 j156 j157 j158 j159 j160 j161 j162 j163 j164 j165 j166 j167 j168 j169 j170 j171 j172 j173 j174 j175 j176 j177 j178 j179 j180 j181 j182 j183 j184 j185 j186 j187 j188 j189 j190 j191 j192 j193 j194 j195 j196 j197:Value),K #[j0,j1,.int .u8 (st:Int),j3,j4,j5,.bool false,.pointer (some ⟨s,0,none⟩),j8,.int .i64 (i:Int),.slice lA E.length lc,j11,.slice aA E.length ac,j13,j14,j15,j16,j17,.int .i64 ((i0:Int)+1),j19,j20,j21,j22,j23,j24,j25,j26,j27,j28,j29,j30,j31,j32,j33,j34,j35,j36,j37,j38,j39,j40,j41,j42,j43,j44,j45,j46,j47,j48,j49,j50,j51,j52,j53,j54,j55,j56,j57,j58,j59,j60,j61,j62,j63,j64,j65,j66,j67,j68,j69,j70,j71,j72,j73,j74,j75,j76,j77,j78,j79,j80,j81,j82,j83,j84,j85,j86,j87,j88,j89,j90,j91,j92,j93,j94,j95,j96,j97,j98,j99,j100,j101,j102,j103,j104,j105,j106,j107,j108,j109,j110,j111,j112,j113,j114,j115,j116,j117,j118,j119,j120,j121,j122,j123,j124,j125,j126,j127,j128,j129,j130,j131,j132,j133,j134,j135,j136,j137,j138,j139,j140,j141,j142,j143,j144,j145,j146,j147,j148,j149,j150,j151,j152,j153,j154,j155,j156,j157,j158,j159,j160,j161,j162,j163,j164,j165,j166,j167,j168,j169,j170,j171,j172,j173,j174,j175,j176,j177,j178,j179,j180,j181,j182,j183,j184,j185,j186,j187,j188,j189,j190,j191,j192,j193,j194,j195,j196,j197] u by
  clear hcs hat hlb
  go_wp2_with fail
  exact hM _ _ _ _ _ _ _ _ _ _ _ _ _ _ _ _ _ _ _ _ _ _ _ _ _ _ _ _ _ _ _ _ _ _ _ _ _ _ _ _ _ _ _ _ _ _ _ _ _ _ _ _ _ _ _ _ _ _ _ _ _ _ _ _ _ _ _ _ _ _ _ _ _ _ _ _ _ _ _ _ _ _ _ _ _ _ _ _ _ _ _ _ _ _ _ _ _ _ _ _ _ _ _ _ _ _ _ _ _ _ _ _ _ _ _ _ _ _ _ _ _ _ _ _ _ _ _ _ _ _ _ _ _ _ _ _ _ _ _ _ _ _ _ _ _ _ _ _ _ _ _ _ _ _ _ _ _ _ _ _ _ _ _ _ _ _ _ _ _ _ _ _ _ _ _ _ _ _ _ _ _ _ _ _ _ _ _ _ _ _ _
 intro j0 j1 j3 j4 j5 j8 j11 j13 j14 j15 j16 j17 j19 j20 j21 j22 j23 j24 j25 j26 j27 j28 j29 j30 j31 j32 j33 j34 j35 j36 j37 j38 j39 j40 j41 j42 j43 j44 j45 j46 j47 j48 j49 j50 j51 j52 j53 j54 j55 j56 j57 j58 j59 j60 j61 j62 j63 j64 j65 j66 j67 j68 j69 j70 j71 j72 j73 j74 j75 j76 j77 j78 j79 j80 j81 j82 j83 j84 j85 j86 j87 j88 j89 j90 j91 j92 j93 j94 j95 j96 j97 j98 j99 j100 j101 j102 j103 j104 j105 j106 j107 j108 j109 j110 j111 j112 j113 j114 j115 j116 j117 j118 j119 j120 j121 j122 j123 j124 j125 j126 j127 j128 j129 j130 j131 j132 j133 j134 j135 j136 j137 j138 j139 j140 j141 j142 j143 j144 j145 j146 j147 j148 j149 j150 j151 j152 j153 j154 j155 j156 j157 j158 j159 j160 j161 j162 j163 j164 j165 j166 j167 j168 j169 j170 j171 j172 j173 j174 j175 j176 j177 j178 j179 j180 j181 j182 j183 j184 j185 j186 j187 j188 j189 j190 j191 j192 j193 j194 j195 j196 j197
 refine hK.out _ _ (co_same hu ?_)
 clear hK K hu d0 hcs hat hlb u
 clear B3
 refine co_seq hZ hX1 ?_
 refine co_code hZ hX1 TT (by decide) (by kernel_rfl) (by kernel_rfl) fun K hK u hu=> ?_
 go_wp2_with fail
 refine hK.out _ _ (co_same hu ?_)
 clear hK K hu u
 refine co_seq hZ hX1 ?_
 refine co_code hZ hX1 TT (by decide) (by kernel_rfl) (by kernel_rfl) fun K hK u hu=> ?_
 have C0:=same_chg (F:=fun _=>False) hu
 have ha:=Lib.hid (B2.sl.chg intR_flat C0 (fun _ _=>id))
 have C0:=Hd.mk C0
 clear hu
 suffices hM:∀w (q:Nat),Below u.heap.size u w→E[q]?=some i0→∀(j0 j1 j3 j4 j5 j8 j11 j13 j14 j15 j16 j17 j20 j21 j22 j23 j24 j25 j26 j27 j28 j29 j30 j31 j32 j33 j34 j35 j36 j37 j38 j39 j40 j41 j42 j43 j44 j45 j46 j47 j48 j49 j50 j51 j52 j53 j54 j55 j56 j57 j58 j59 j60 j61 j62 j63 j64 j65 j66 j67 j68 j69 j70 j71 j72 j73 j74 j75 j76 j77 j78 j79 j80 j81 j82 j83 j84 j85 j86 j87 j88 j89 j90 j91 j92 j93 j94 j95 j96 j97 j98 j99 j100 j101 j102 j103 j104 j105 j106 j107 j108 j109 j110 j111 j112 j113 j114 j115 j116 j117 j118 j119 j120 j121 j122 j123 j124 j125 j126 j127 j128 j129 j130 j131 j132 j133 j134 j135 j136 j137 j138 j139 j140 j141 j142 j143 j144 j145 j146 j147 j148 j149 j150 j151 j152 j153 j154 j155 j156 j157 j158 j159 j160 j161 j162 j163 j164 j165 j166 j167 j168 j169 j170 j171 j172 j173 j174 j175 j176 j177 j178 j179 j180 j181 j182 j183 j184 j185 j186 j187 j188 j189 j190 j191 j192 j193 j194 j195 j196 j197:Value),K #[j0,j1,.int .u8 (st:Int),j3,j4,j5,.bool false,.pointer (some ⟨s,0,none⟩),j8,.int .i64 (i:Int),.slice lA E.length lc,j11,.slice aA E.length ac,j13,j14,j15,j16,j17,.int .i64 ((i0:Int)+1),.int .i64 (q:Int),j20,j21,j22,j23,j24,j25,j26,j27,j28,j29,j30,j31,j32,j33,j34,j35,j36,j37,j38,j39,j40,j41,j42,j43,j44,j45,j46,j47,j48,j49,j50,j51,j52,j53,j54,j55,j56,j57,j58,j59,j60,j61,j62,j63,j64,j65,j66,j67,j68,j69,j70,j71,j72,j73,j74,j75,j76,j77,j78,j79,j80,j81,j82,j83,j84,j85,j86,j87,j88,j89,j90,j91,j92,j93,j94,j95,j96,j97,j98,j99,j100,j101,j102,j103,j104,j105,j106,j107,j108,j109,j110,j111,j112,j113,j114,j115,j116,j117,j118,j119,j120,j121,j122,j123,j124,j125,j126,j127,j128,j129,j130,j131,j132,j133,j134,j135,j136,j137,j138,j139,j140,j141,j142,j143,j144,j145,j146,j147,j148,j149,j150,j151,j152,j153,j154,j155,j156,j157,j158,j159,j160,j161,j162,j163,j164,j165,j166,j167,j168,j169,j170,j171,j172,j173,j174,j175,j176,j177,j178,j179,j180,j181,j182,j183,j184,j185,j186,j187,j188,j189,j190,j191,j192,j193,j194,j195,j196,j197] w by
  have HM:=Hd.mk hM
  clear hK hM
  go_wp2_with fail
  go_loopw [19,20] (fun z k wr=> ∃(n:Nat) (y:Int),n≤E.length∧Hid (BestAt S E n y)∧z=.int .i64 y∧k=.int .i64 (n:Int)∧Hid (Below u.heap.size u wr)) (fun _ k _=>201-(intOf k).toNat)
  case atStart=>exact⟨0,-1,by omega,BestAt.zero _ _,rfl,rfl,Below.refl _ _⟩
  case round=>
   obtain⟨n,y,hn,hbe,rfl,rfl,hb⟩:=hrel
   by_cases hlt2:n<E.length
   ·have hnl:n<(agesE S E).length:=by rw[agesE_len];exact hlt2
    obtain⟨bl,off,cs,e1,hbl,h2,h3⟩:=(ha.out.up hb.out).at_ hnl
    subst e1
    have hp:=h3 0 _ (by rw[show cs=_ from h2.1];rfl)
    rw[agesE_at hlt2] at hp
    rcases hbe.out with⟨rfl,rfl⟩|⟨h1n,q,rfl,hqn,hq⟩
    ·have hbe2:=Lib.hid (BestAt.first (S:=S) hlt2)
     simp only[intR,Nat.mul_one,Nat.add_zero] at hp
     clear ha h2 h3 hbl hnl hbe
     go_wp2_with fail
     go_quiet (fail)
     go_wp2_with fail
     go_roundw
     case rel=>exact⟨1,0,by omega,hbe2.out,by go_num,by go_num,bdN hb.out _⟩
     case measure=>simp[intOf]<;>omega
    ·have hqE:q<E.length:=by omega
     have hql:q<(agesE S E).length:=by rw[agesE_len];omega
     obtain⟨bl',off',cs',e1',hbl',h2',h3'⟩:=(ha.out.up hb.out).at_ hql
     cases e1'
     have hp':=h3' 0 _ (by rw[show cs'=_ from h2'.1];rfl)
     rw[agesE_at (by omega)] at hp'
     have hEq:E[q]=bestS S E n:=by rw[List.getElem?_eq_getElem (by omega)] at hq;exact Option.some.inj hq
     rw[hEq] at hp'
     by_cases hbt:ageOf S (bestS S E n)<ageOf S E[n]
     ·have hbe2:=Lib.hid (BestAt.take hlt2 hbt)
      generalize ageOf S (bestS S E n)=a1 at hp' hbt
      generalize ageOf S E[n]=a2 at hp hbt
      simp only[intR,Nat.mul_one,Nat.add_zero] at hp hp'
      clear ha h2 h3 hbl hnl hbe h2' h3' hbl' hql hq hEq
      go_wp2_with fail
      go_quiet (fail)
      go_wp2_with fail
      go_roundw
      case rel=>exact⟨n+1,n,by omega,hbe2.out,by go_num,by go_num,bdN hb.out _⟩
      case measure=>simp[intOf]<;>omega
     ·have hbe2:=Lib.hid (BestAt.keep hlt2 hqn hq hbt)
      generalize ageOf S (bestS S E n)=a1 at hp' hbt
      generalize ageOf S E[n]=a2 at hp hbt
      simp only[intR,Nat.mul_one,Nat.add_zero] at hp hp'
      clear ha h2 h3 hbl hnl hbe h2' h3' hbl' hql hq hEq
      go_wp2_with fail
      go_quiet (fail)
      go_wp2_with fail
      go_roundw
      case rel=>exact⟨n+1,q,by omega,hbe2.out,by go_num,by go_num,bdN hb.out _⟩
      case measure=>simp[intOf]<;>omega
   ·have hke:n=E.length:=by omega
    subst hke
    rcases hbe.out with⟨h1,_⟩|⟨_,q,rfl,_,hq⟩
    ·omega
    ·rw[best_all,hi0.out] at hq
     clear hlt2 ha hbe
     go_wp2_with fail
     exact HM.out _ _ hb.out hq _ _ _ _ _ _ _ _ _ _ _ _ _ _ _ _ _ _ _ _ _ _ _ _ _ _ _ _ _ _ _ _ _ _ _ _ _ _ _ _ _ _ _ _ _ _ _ _ _ _ _ _ _ _ _ _ _ _ _ _ _ _ _ _ _ _ _ _ _ _ _ _ _ _ _ _ _ _ _ _ _ _ _ _ _ _ _ _ _ _ _ _ _ _ _ _ _ _ _ _ _ _ _ _ _ _ _ _ _ _ _ _ _ _ _ _ _ _ _ _ _ _ _ _ _ _ _ _ _ _ _ _ _ _ _ _ _ _ _ _ _ _ _ _ _ _ _ _ _ _ _ _ _ _ _ _ _ _ _ _ _ _ _ _ _ _ _ _ _ _ _ _ _ _ _ _ _ _ _ _ _ _ _ _ _ _ _ _ _ _
 intro w4 q hbw hq j0 j1 j3 j4 j5 j8 j11 j13 j14 j15 j16 j17 j20 j21 j22 j23 j24 j25 j26 j27 j28 j29 j30 j31 j32 j33 j34 j35 j36 j37 j38 j39 j40 j41 j42 j43 j44 j45 j46 j47 j48 j49 j50 j51 j52 j53 j54 j55 j56 j57 j58 j59 j60 j61 j62 j63 j64 j65 j66 j67 j68 j69 j70 j71 j72 j73 j74 j75 j76 j77 j78 j79 j80 j81 j82 j83 j84 j85 j86 j87 j88 j89 j90 j91 j92 j93 j94 j95 j96 j97 j98 j99 j100 j101 j102 j103 j104 j105 j106 j107 j108 j109 j110 j111 j112 j113 j114 j115 j116 j117 j118 j119 j120 j121 j122 j123 j124 j125 j126 j127 j128 j129 j130 j131 j132 j133 j134 j135 j136 j137 j138 j139 j140 j141 j142 j143 j144 j145 j146 j147 j148 j149 j150 j151 j152 j153 j154 j155 j156 j157 j158 j159 j160 j161 j162 j163 j164 j165 j166 j167 j168 j169 j170 j171 j172 j173 j174 j175 j176 j177 j178 j179 j180 j181 j182 j183 j184 j185 j186 j187 j188 j189 j190 j191 j192 j193 j194 j195 j196 j197
 have C1':=C0.out.trans (Chg.of_below (F:=fun _=>False) hbw) (fun _ _=>id)
 refine hK.out _ _ ?_
 have B1:=B1.still intR_flat C1'
 have B2:=B2.still intR_flat C1'
 have L1:=L1.still hD C1'
 clear hK K ha C0 C1' hbw
 refine co_seq hZ hX1 ?_
 refine co_seq hZ hX1 ?_
 refine co_code hZ hX1 TT (by decide) (by kernel_rfl) (by kernel_rfl) fun K hK u hu=> ?_
 have hql:q<E.length:=(List.getElem?_eq_some_iff.1 hq).1
 obtain⟨bl,off,cs,e1,hbl,h2,h3⟩:=(B1.sl.chg intR_flat (same_chg (F:=fun _=>False) hu) (fun _ _=>id)).at_ (show q<(nums E).length by rw[numsLen];exact hql)
 have hp:=h3 0 _ (by rw[show cs=_ from h2.1];rfl)
 rw[nums_at hql,show E[q]=i0 by rw[List.getElem?_eq_getElem hql] at hq;exact Option.some.inj hq] at hp
 simp only[intR,Nat.mul_one,Nat.add_zero] at hp
 have hB1:=Hd.mk B1
 clear h2 h3 hbl hq B1
 subst e1
 go_wp2_with fail
 refine hK.out _ _ (co_same hu ?_)
 clear hK K hu hp u
 have B1:=hB1.out
 refine co_cond (t:=false) hZ hX1 (by simp[Act.eval]) ?_
 simp only[Bool.false_eq_true,↓reduceIte]
 refine co_skip hZ hX1 ?_
 refine co_codeR hZ hX1 TT rfl (by kernel_rfl) (by kernel_rfl) fun K hK u hu=> ?_
 have C0:=same_chg (F:=fun _=>False) hu
 obtain⟨tv,uv,PP⟩:=L1.pl hD C0
 have hA:=Lib.hid (fun(W:World) (hb:Below u.heap.size u W) (n:Int) (hn:Bd n)=>Age_any (PP.up hb).sm n hn)
 have hl:=Lib.hid (B1.sl.chg intR_flat C0 (fun _ _=>id))
 have ha:=Lib.hid (B2.sl.chg intR_flat C0 (fun _ _=>id))
 have C0:=Hd.mk C0
 clear hu PP B1 B2
 suffices hM:∀w,Below u.heap.size u w→∀(j0 j1 j3 j4 j5 j8 j10 j11 j12 j13 j14 j15 j16 j17 j18 j19 j20 j21 j22 j23 j24 j25 j26 j27 j28 j29 j30 j31 j32 j33 j34 j35 j36 j37 j38 j39 j40 j41 j42 j43 j44 j45 j46 j47 j48 j49 j50 j51 j52 j53 j54 j55 j56 j57 j58 j59 j60 j61 j62 j63 j64 j65 j66 j67 j68 j69 j70 j71 j72 j73 j74 j75 j76 j77 j78 j79 j80 j81 j82 j83 j84 j85 j86 j87 j88 j89 j90 j91 j92 j93 j94 j95 j96 j97 j98 j99 j100 j101 j102 j103 j104 j105 j106 j107 j108 j109 j110 j111 j112 j113 j114 j115 j116 j117 j118 j119 j120 j121 j122 j123 j124 j125 j126 j127 j128 j129 j130 j131 j132 j133 j134 j135 j136 j137 j138 j139 j140 j141 j142 j143 j144 j145 j146 j147 j148 j149 j150 j151 j152 j153 j154 j155 j156 j157 j158 j159 j160 j161 j162 j163 j164 j165 j166 j167 j168 j169 j170 j171 j172 j173 j174 j175 j176 j177 j178 j179 j180 j181 j182 j183 j184 j185 j186 j187 j188 j189 j190 j191 j192 j193 j194 j195 j196 j197:Value),K #[j0,j1,.int .u8 (st:Int),j3,j4,j5,.bool false,.pointer (some ⟨s,0,none⟩),j8,.int .i64 (i:Int),j10,j11,j12,j13,j14,j15,j16,j17,j18,j19,j20,j21,j22,j23,j24,j25,j26,j27,j28,j29,j30,j31,j32,j33,j34,j35,j36,j37,j38,j39,j40,j41,j42,j43,j44,j45,j46,j47,j48,j49,j50,j51,j52,j53,j54,j55,j56,j57,j58,j59,j60,j61,j62,j63,j64,j65,j66,j67,j68,j69,j70,j71,j72,j73,j74,j75,j76,j77,j78,j79,j80,j81,j82,j83,j84,j85,j86,j87,j88,j89,j90,j91,j92,j93,j94,j95,j96,j97,j98,j99,j100,j101,j102,j103,j104,j105,j106,j107,j108,j109,j110,j111,j112,j113,j114,j115,j116,j117,j118,j119,j120,j121,j122,j123,j124,j125,j126,j127,j128,j129,j130,j131,j132,j133,j134,j135,j136,j137,j138,j139,j140,j141,j142,j143,j144,j145,j146,j147,j148,j149,j150,j151,j152,j153,j154,j155,j156,j157,j158,j159,j160,j161,j162,j163,j164,j165,j166,j167,j168,j169,j170,j171,j172,j173,j174,j175,j176,j177,j178,j179,j180,j181,j182,j183,j184,j185,j186,j187,j188,j189,j190,j191,j192,j193,j194,j195,j196,j197] w by
  have HM:=Hd.mk hM
  clear hK hM
  go_wp2_with fail
  go_loopw [6,21] (fun z k wr=> ∃n:Nat,n≤E.length∧z=.bool false∧k=.int .i64 (n:Int)∧Hid (Below u.heap.size u wr)) (fun _ k _=>201-(intOf k).toNat)
  case atStart=>exact⟨0,by omega,rfl,rfl,Below.refl _ _⟩
  case round=>
   obtain⟨n,hn,rfl,rfl,hb⟩:=hrel
   by_cases hlt2:n<E.length
   ·obtain⟨bl,off,cs,e1,hbl,h2,h3⟩:=(hl.out.up hb.out).at_ (show n<(nums E).length by rw[numsLen];exact hlt2)
    obtain⟨bl',off',cs',e1',hbl',h2',h3'⟩:=(ha.out.up hb.out).at_ (show n<(agesE S E).length by rw[agesE_len];exact hlt2)
    cases e1
    subst e1'
    have hp:=h3 0 _ (by rw[show cs=_ from h2.1];rfl)
    rw[nums_at hlt2] at hp
    have hp':=h3' 0 _ (by rw[show cs'=_ from h2'.1];rfl)
    rw[agesE_at hlt2] at hp'
    simp only[intR,Nat.mul_one,Nat.add_zero] at hp hp'
    have hEm:E[n]∈E:=List.getElem_mem hlt2
    obtain⟨hf,hag⟩:=hA1.out _ hEm
    have hE2:=hel.out _ hEm
    have hbg:=hbd.out E[n]
    have R:=hA.out _ hb.out ((E[n]:Int)+1) (by unfold Bd;omega)
    rw[hf,hag] at R
    generalize ageOf S E[n]=ag at R hbg hp'
    generalize E[n]=en at R hp hE2
    clear hA hl ha h2 h3 hbl h2' h3' hbl' hf hag hEm
    by_cases he:en=i0
    ·subst he
     rw[if_pos rfl] at R
     have R:=Lib.hid R
     go_wp2_with (go_at_call 14;refine R.out.mono ?_;rintro e w5 ⟨rfl,hb2⟩;have HB:=Hd.mk hb2;clear hb2;have hp:=cell_later HB.out hp;have hp':=cell_later HB.out hp')
     go_roundw
     case rel=>exact⟨n+1,by omega,rfl,by go_num,hb.out.trans (HB.out.mono hb.out.size)⟩
     case measure=>simp[intOf]<;>omega
    ·rw[if_neg he] at R
     have R:=Lib.hid R
     have he2:¬((en:Int)=(i0:Int)):=by omega
     go_wp2_with (go_at_call 14;refine R.out.mono ?_;rintro e w5 ⟨rfl,hb2⟩;have HB:=Hd.mk hb2;clear hb2;have hp:=cell_later HB.out hp;have hp':=cell_later HB.out hp')
     go_roundw
     case rel=>exact⟨n+1,by omega,rfl,by go_num,hb.out.trans (HB.out.mono hb.out.size)⟩
     case measure=>simp[intOf]<;>omega
   ·have hke:n=E.length:=by omega
    subst hke
    clear hlt2 hA hl ha
    go_wp2_with fail
    exact HM.out _ hb.out _ _ _ _ _ _ _ _ _ _ _ _ _ _ _ _ _ _ _ _ _ _ _ _ _ _ _ _ _ _ _ _ _ _ _ _ _ _ _ _ _ _ _ _ _ _ _ _ _ _ _ _ _ _ _ _ _ _ _ _ _ _ _ _ _ _ _ _ _ _ _ _ _ _ _ _ _ _ _ _ _ _ _ _ _ _ _ _ _ _ _ _ _ _ _ _ _ _ _ _ _ _ _ _ _ _ _ _ _ _ _ _ _ _ _ _ _ _ _ _ _ _ _ _ _ _ _ _ _ _ _ _ _ _ _ _ _ _ _ _ _ _ _ _ _ _ _ _ _ _ _ _ _ _ _ _ _ _ _ _ _ _ _ _ _ _ _ _ _ _ _ _ _ _ _ _ _ _ _ _ _ _ _ _ _ _ _ _ _ _ _ _ _ _
 intro w6 hbw j0 j1 j3 j4 j5 j8 j10 j11 j12 j13 j14 j15 j16 j17 j18 j19 j20 j21 j22 j23 j24 j25 j26 j27 j28 j29 j30 j31 j32 j33 j34 j35 j36 j37 j38 j39 j40 j41 j42 j43 j44 j45 j46 j47 j48 j49 j50 j51 j52 j53 j54 j55 j56 j57 j58 j59 j60 j61 j62 j63 j64 j65 j66 j67 j68 j69 j70 j71 j72 j73 j74 j75 j76 j77 j78 j79 j80 j81 j82 j83 j84 j85 j86 j87 j88 j89 j90 j91 j92 j93 j94 j95 j96 j97 j98 j99 j100 j101 j102 j103 j104 j105 j106 j107 j108 j109 j110 j111 j112 j113 j114 j115 j116 j117 j118 j119 j120 j121 j122 j123 j124 j125 j126 j127 j128 j129 j130 j131 j132 j133 j134 j135 j136 j137 j138 j139 j140 j141 j142 j143 j144 j145 j146 j147 j148 j149 j150 j151 j152 j153 j154 j155 j156 j157 j158 j159 j160 j161 j162 j163 j164 j165 j166 j167 j168 j169 j170 j171 j172 j173 j174 j175 j176 j177 j178 j179 j180 j181 j182 j183 j184 j185 j186 j187 j188 j189 j190 j191 j192 j193 j194 j195 j196 j197
 have C1':=C0.out.trans (Chg.of_below (F:=fun _=>False) hbw) (fun _ _=>id)
 refine hK.out _ _ ?_
 have L1:=L1.still hD C1'
 clear hK K ha hl hA C0 C1' hbw
 exact HN.out L1 _ _ _ _ _ _ _ _ _ _ _ _ _ _ _ _ _ _ _ _ _ _ _ _ _ _ _ _ _ _ _ _ _ _ _ _ _ _ _ _ _ _ _ _ _ _ _ _ _ _ _ _ _ _ _ _ _ _ _ _ _ _ _ _ _ _ _ _ _ _ _ _ _ _ _ _ _ _ _ _ _ _ _ _ _ _ _ _ _ _ _ _ _ _ _ _ _ _ _ _ _ _ _ _ _ _ _ _ _ _ _ _ _ _ _ _ _ _ _ _ _ _ _ _ _ _ _ _ _ _ _ _ _ _ _ _ _ _ _ _ _ _ _ _ _ _ _ _ _ _ _ _ _ _ _ _ _ _ _ _ _ _ _ _ _ _ _ _ _ _ _ _ _ _ _ _ _ _ _ _ _ _ _ _ _ _ _ _ _ _ _ _ _ _
end Co
end Go.Proofs.Ytlngbdggehghgaa
