/-
  Walk of groundlingref23.lists. Conditions: as the theorem says.
-/
import Derived.Test.YtlckmjiioohcmaaGreatDoorRmD
import Derived.Test.YtlckmjiioohcmaaGreatDoorRcA
namespace Go.Proofs.YtlckmjiioohcmaaGreatDoor
open Go.RowKit
theorem sliceTo_run (bb off n c f:Nat) (hf:f≤n) (hn:n≤c) (w:World):(Instr.sliceAt 85 (.slice (some ⟨bb,off,none⟩) n c) none (some (.int .i64 (f:Int))) none).run Tryz.prog w=.ok (.slice (some ⟨bb,off,none⟩) f c) w:=by
 have h1:(f:Int)≤(c:Int):=by omega
 have h2:(0:Int)≤(f:Int):=by omega
 go_simp
theorem sliceFrom_run (bb off n c f:Nat) (hf:f≤n) (w:World):(Instr.sliceAt 85 (.slice (some ⟨bb,off,none⟩) n c) (some (.int .i64 (f:Int))) none none).run Tryz.prog w=.ok (.slice (if c=f then some ⟨bb,off,none⟩ else some ⟨bb,off+f,none⟩) (n-f) (c-f)) w:=by
 have h1:(f:Int)≤(n:Int):=by omega
 have h2:(0:Int)≤(f:Int):=by omega
 by_cases h:c=f
 ·go_simp
 ·go_simp
theorem yieldsSl {P:Program} {S:World→Prop} {ops:Array Oper} {o:Oper} {a:Act} {v:Value} {t:TypeId} {x:Operand} {lo hi:Option Operand} (p:Value) (l h:Option Value) (hw:Region.wanted o (yielded ops a.tmps)=true) (ho:o.op=.slice t x lo hi none) (hx:a.eval x=p) (hl:lo.map a.eval=l) (hh:hi.map a.eval=h) (hrun:∀w,(Instr.sliceAt t p l h none).run P w=.ok v w):YieldsIf P ops S o v a:=
 .inl ⟨hw,fun w _=>by unfold execOp;simp only[ho,hx,hl,hh,Option.map_none,Sem.run_bind,hrun w,Result.andThen_ok,Sem.run_pure]⟩
theorem yieldsM {P:Program} {S:World→Prop} {ops:Array Oper} {o:Oper} {a:Act} {v:Value} {x:Operand} (hw:Region.wanted o (yielded ops a.tmps)=true) (ho:o.op=.move x) (hx:a.eval x=v):YieldsIf P ops S o v a:=
 .inl ⟨hw,fun w _=>by unfold execOp;simp only[ho,hx,Sem.run_pure]⟩
theorem own_oneU (B:Nat) (w:World) (g:Nat) (x:Int) (hg:g=w.heap.size) (hB:B≤w.heap.size) (hx:U32 x):Own u32R 41 B (w.alloc (.cells #[.int .u32 x] 41)) (.slice (some ⟨g,0,none⟩) 1 1) [x]:=
 Own.lit (R:=u32R) (B:=B) (e:=41) (w:=w) (cells:=[.int .u32 x]) (xs:=[x]) hg hB (Rep.many_one (R:=u32R) ⟨rfl,hx⟩) rfl (by simp)
def JoinAt (w0 W X:World) (V:Option Addr) (vc a ac b qc:Nat) (vs:List Value) (s:Md) (k:Nat) (l':List Int) (q:Nat):Prop:=∃A9 c9,RMem w0 X V vc a ac b qc (vs.set k (.slice A9 l'.length c9)) {s with qs:=s.qs.set k l'}∧BoxN X q 31 (mdCells (frM V vc a ac b qc) {s with qs:=s.qs.set k l'}).toArray∧BoxN X (q+1+1) 31 #[.int .i64 0,.int .i64 0,.int .i64 0,.slice none 0 0,.int .i64 0,.slice none 0 0,.slice none 0 0]∧BoxN X (q+1+1+1) 49 #[.int .i64 0,.int .i64 0,.int .i64 0,.int .i64 0,.int .u32 0,.int .u32 0,.int .u64 0,.int .u64 0,.int .i64 0]∧Only3 a a b W X
theorem behind_slo {α:Type} {R:Rep α} {w:World} {b off n c:Nat} {xs:List α} (h:Sl R w (.slice (some ⟨b,off,none⟩) n c) xs) (hR:R.size=1) {k:Nat} (hk:k≤xs.length):
 Sl R w (.slice (if c=k then some ⟨b,off,none⟩ else some ⟨b,off+k,none⟩) (xs.length-k) (c-k)) (xs.drop k):=by
 by_cases e:c=k
 ·rw[if_pos e]
  obtain⟨A',d,he,h1,h2,h3⟩:=h
  injection he with e1 e2 e3
  subst e3
  have h4:xs.length-k=0:=by omega
  have h5:xs.drop k=[]:=List.drop_eq_nil_of_le (by omega)
  rw[h5,h4,e,Nat.sub_self]
  exact⟨_,_,rfl,by simp,by simp,.inl ⟨rfl,rfl⟩⟩
 ·rw[if_neg e]
  exact h.drop hk (by rw[hR,Nat.mul_one]) rfl rfl
def listsM (s:Md) (op:MOp) (k:Nat):Md×MRp:=if op.kind=11 then leaveM s op k else joinM s op k
set_option maxHeartbeats 16000000 in
set_option maxRecDepth 100000 in
theorem rLists_any {w0 W:World} {V:Option Addr} {vc a ac b qc:Nat} {vs:List Value} {s:Md} {op:MOp} (h:RMem w0 W V vc a ac b qc vs s) {k:Nat} (hk:k<s.qs.length) (hks:s.qs.length=s.ve.secs.length) (hll:∀l∈s.qs,l.length≤1000000) (ho:OpOk op) (hsec:op.section_=(k:Int)):
 Calls Tryz.prog 40 #[mdV (frM V vc a ac b qc) s,.agg (opCells op).toArray] W (ROp w0 W V vc a ac b qc (listsM s op k)):=by
 have hM:=Lib.hid (show listsM s op k=if op.kind=11 then(if idxOf (fun x=>op.owner==x) (listAt s k)<0 then(s,{noRp with err:=4}) else({s with qs:=s.qs.set k ((listAt s k).eraseIdx (idxOf (fun x=>op.owner==x) (listAt s k)).toNat)},noRp))
  else(if limAt s k≤((listAt s k).length:Int) then(s,{noRp with err:=5}) else if((listAt s k).any fun x=>op.owner==x)=true then(s,{noRp with err:=8}) else({s with qs:=s.qs.set k (listAt s k++[op.owner])},{noRp with place:=((listAt s k).length:Int)+1})) from rfl)
 have hks1:k<s.ve.secs.length:=by rw[←hks];exact hk
 have hla:listAt s k=s.qs[k]:=by simp[listAt,hk]
 have hlm:limAt s k=(s.ve.secs[k]'hks1).queue:=by simp[limAt,hks1]
 have hfe:(fun x:Int=>op.owner==x)=(fun y=>y==op.owner):=by funext y;exact Bool.beq_comm
 rw[hla,hlm,hfe,←idxOf_any] at hM
 obtain⟨bV,oV,A',c',hV,hbV,_,_,e2,_,hqb,_⟩:=(h.ve.up h.bw).atS (k:=k) hks1
 have hlen:=hll _ (List.getElem_mem hk)
 have HG:=Lib.hid (idxOf_ge (p:=fun y=>y==op.owner) (xs:=s.qs[k]))
 have C1:=Lib.hid (fun X A c (hS:Sl u32R X (.slice A s.qs[k].length c) s.qs[k])=>rPlace_any hS op.owner)
 obtain⟨A0,c0',e0,hqt,_⟩:=h.list hk
 have HQT:=Lib.hid hqt
 have hkk:=Lib.hid (show s.qs.length=s.qs.length from rfl)
 generalize listsM s op k=MM at hM⊢
 generalize s.qs[k]=l at*
 generalize(s.ve.secs[k]'hks1).queue=lim at*
 generalize idxOf (fun y=>y==op.owner) l=ix at*
 have H:=Lib.hid h
 have HO:=Lib.hid ho
 have hw0s:=h.bw.size
 have HE0:=Lib.hid e0
 have HE2:=Lib.hid e2
 subst hV
 have HSEC:=Lib.hid hsec
 clear h ho hla hlm hfe hll hqt e0 e2 hkk hqb hsec hks
 unfold mdV frM
 simp only
 unfold opCells
 go_enter Tryz.func40,Tryz.ntmps40
 go_upto_region 1 with fail
 obtain⟨q,hqq⟩:∃q,W.heap.size=q:=⟨_,rfl⟩
 rw[hqq]
 refine at_world (fun X=>Below W.heap.size W X∧BoxN X q 31 (mdCells (frM (some ⟨bV,oV,none⟩) vc a ac b qc) s).toArray∧BoxN X (q+1) 46 (opCells op).toArray∧BoxN X (q+1+1) 31 #[.int .i64 0,.int .i64 0,.int .i64 0,.slice none 0 0,.int .i64 0,.slice none 0 0,.slice none 0 0]∧BoxN X (q+1+1+1) 49 #[.int .i64 0,.int .i64 0,.int .i64 0,.int .i64 0,.int .u32 0,.int .u32 0,.int .u64 0,.int .u64 0,.int .i64 0]) (four_boxes hqq _ _ _ _ _ _ _ _) fun w1 hw1=> ?_
 have B1':=Lib.hid hw1.1
 have K1:=Lib.hid hw1.2.1
 have P1:=Lib.hid hw1.2.2.1
 have J1:=Lib.hid hw1.2.2.2.1
 have G1:=Lib.hid hw1.2.2.2.2
 have H1:=Lib.hid (H.out.up hw1.1)
 clear hw1 H
 have c6:=K1.out.cell 6 (.slice (some ⟨b,0,none⟩) s.qs.length qc) rfl
 have p4:=P1.out.cell 4 (.int .i64 op.section_) rfl
 have p1:=P1.out.cell 1 (.int .u32 op.owner) rfl
 rw[HSEC.out] at p4
 have zq:=K1.out.lt
 have zp:=P1.out.lt
 have zb:=H1.out.bB.2
 have e0:=cell_later B1'.out HE0.out
 have hk0:(0:Int)≤(k:Int):=by omega
 have hk1:(k:Int)<(s.qs.length:Int):=by omega
 go_wp2_with fail
 refine(C1.out _ _ _ (HQT.out.1.up B1'.out)).mono ?_
 rintro e w2 ⟨rfl,hb2⟩
 have HQ2:=Lib.hid ((HQT.out.up B1'.out).up hb2)
 have H2:=Lib.hid (H1.out.up hb2)
 have K2:=Lib.hid (K1.out.later hb2)
 have P2:=Lib.hid (P1.out.later hb2)
 have J2:=Lib.hid (J1.out.later hb2)
 have G2:=Lib.hid (G1.out.later hb2)
 have B2':=Lib.hid (B1'.out.trans (hb2.mono B1'.out.size))
 have HE2':=Lib.hid (cell_later B2'.out HE2.out)
 have hbV2:bV<w2.heap.size:=Nat.lt_of_lt_of_le hbV B2'.out.size
 clear hb2 H1 K1 P1 J1 G1 B1' c6 p4 p1 zq zp zb e0 C1 HQT HE0 HE2 hbV
 have hqW:W.heap.size≤q:=by omega
 have p0:=P2.out.cell 0 (.int .i64 op.kind) rfl
 have zp:=P2.out.lt
 have hsz2:=B2'.out.size
 by_cases hkd:op.kind=11
 ·as_aux_lemma=>
  have tk:(op.kind==11)=true:=by simpa using hkd
  have hM1:=Lib.hid (show MM=if ix<0 then(s,{noRp with err:=4}) else({s with qs:=s.qs.set k (l.eraseIdx ix.toNat)},noRp) by rw[hM.out,if_pos hkd])
  clear hM hkd
  by_cases hix:ix<0
  ·have tx:decide (ix<0)=true:=decide_eq_true hix
   have hM2:=Lib.hid (show MM=(s,{noRp with err:=4}) by rw[hM1.out,if_pos hix])
   clear hM1 hix HG
   obtain⟨ms,hms⟩:∃ms:List Value,ms=mdCells (frM (some ⟨bV,oV,none⟩) vc a ac b qc) s:=⟨_,rfl⟩
   have HMS:=Lib.hid hms
   have KM:=Lib.hid (show BoxN _ q 31 ms.toArray by rw[hms];exact K2.out)
   have S1:=md_s hms
   have S1A:=md_S hms
   have L1:=md_l hms
   have O1:=md_o hms
   clear hms
   have S9:=rp_S (ms:=rpCells {noRp with err:=4}) rfl
   have O9:=rp_o (ms:=rpCells {noRp with err:=4}) rfl
   go_wp2_with (first|refine wpList_load_mid rfl 31 (.tmp 2) rfl q 0 rfl ms _ KM.out.range2 Tryz.underlying31 rfl S1.out ?_|refine wpList_store_row rfl 31 (.tmp 4) (.tmp 23) rfl (q+1+1) ms.toArray rfl rfl 31 _ J2.out S1A.out L1.out.symm O1.out ?_|refine wpList_store_row rfl 49 (.tmp 5) (.tmp 24) rfl (q+1+1+1) (rpCells {noRp with err:=4}).toArray rfl rfl 49 _ (two_rows J2.out G2.out (by omega) ms.toArray #[]).1 S9.out rfl O9.out ?_)
   have hrow:=two_rows J2.out G2.out (by omega) ms.toArray (rpCells {noRp with err:=4}).toArray
   refine at_world (fun Y=>RMem w0 Y (some ⟨bV,oV,none⟩) vc a ac b qc vs s∧BoxN Y (q+1+1) 31 ms.toArray∧BoxN Y (q+1+1+1) 49 (rpCells {noRp with err:=4}).toArray∧Only3 a a b W Y) ⟨(H2.out.kept hrow.2.1 (Tag.of_box J2.out) (by omega) (by decide) (by decide) (by decide)).kept hrow.2.2.1 (Tag.of_box hrow.1) (by omega) (by decide) (by decide) (by decide),hrow.2.2.2.1,hrow.2.2.2.2,((Only3.of a a b B2'.out).new hrow.2.1 (by omega)).new hrow.2.2.1 (by omega)⟩ fun Y hY=> ?_
   have k3:=hY.2.1
   have k4:=hY.2.2.1
   have hR:=hY.1
   have hO:=hY.2.2.2
   clear hY hrow
   rw[HMS.out] at k3
   have gg:=k3.x7
   have uu:=k4.x9
   clear k3 k4
   exact bodyPost_ret (v:=.tuple #[mdV (frM (some ⟨bV,oV,none⟩) vc a ac b qc) s,RpV {noRp with err:=4}]) (by simp[results,Tryz.results40,go_sem,mdV,RpV,gg,uu]) rfl (show ROp w0 W (some ⟨bV,oV,none⟩) vc a ac b qc MM _ _ from⟨vs,by rw[hM2.out],by rw[hM2.out];exact hR,hO⟩)
  have tx:decide (ix<0)=false:=decide_eq_false hix
  have hM2:=Lib.hid (show MM=({s with qs:=s.qs.set k (l.eraseIdx ix.toNat)},noRp) by rw[hM1.out,if_neg hix])
  obtain⟨f,rfl⟩:∃f:Nat,ix=(f:Int):=⟨ix.toNat,by omega⟩
  have hf1:f+1≤l.length:=by have:=HG.out.2;omega
  simp only[Int.toNat_natCast] at hM2
  clear hM1 hix HG
  go_upto_region 6 with fail
  have hbb:∃bb0 off,A0=some ⟨bb0,off,none⟩:=by
   obtain⟨bb,off,h1,_⟩:=HQ2.out.1.atU (k:=0) (by omega)
   exact⟨bb,off,h1⟩
  obtain⟨bb0,off,rfl⟩:=hbb
  have hcap:l.length≤c0':=by
   obtain⟨_,_,heq,hcap,hcm,_⟩:=HQ2.out.1
   injection heq with e1 e2 e3
   subst e3
   exact hcap
  have hS1:=Lib.hid (show Sl u32R w2 (.slice (some ⟨bb0,off,none⟩) f c0') (l.take f) from HQ2.out.1.front (by omega))
  have hS2:=Lib.hid (behind_slo HQ2.out.1 rfl hf1)
  generalize hA:(if c0'=f+1 then some ⟨bb0,off,none⟩ else some ⟨bb0,off+(f+1),none⟩:Option Addr)=A2 at hS2
  have HA2:=Lib.hid hA
  have nf:IntKind.i64.wrap ((f:Int)+1)=(f:Int)+1:=IntWalk.i64_in _ (by omega)
  have hfc:(f:Int)≤(c0':Int):=by omega
  have hfc2:(f:Int)+1≤(l.length:Int):=by omega
  have hfc3:(0:Int)≤(f:Int)+1:=by omega
  have hlc:(l.length:Int)≤(c0':Int):=by omega
  have hpos:0<l.length:=by omega
  have hcp:0<c0':=by omega
  have hl0:(0:Int)<(l.length:Int):=by omega
  have hf0:(0:Int)≤(f:Int):=by omega
  have hfl:(f:Int)≤(l.length:Int):=by omega
  clear hA p0 zp
  refine at_act fun bb hb=> ?_
  have E:=Lib.hid (show EvB bb 76 [(2,.pointer (some ⟨q,0,none⟩)),(3,.pointer (some ⟨q+1,0,none⟩)),(6,.slice (some ⟨bb0,off,none⟩) l.length c0'),(7,.int .i64 (f:Int))] from⟨by rw[hb.out];rfl,fun i v h=>by rw[hb.out];simp only[List.mem_cons,List.not_mem_nil,or_false,Prod.mk.injEq] at h;rcases h with⟨rfl,rfl⟩|⟨rfl,rfl⟩|⟨rfl,rfl⟩|⟨rfl,rfl⟩<;>rfl⟩)
  refine wp_region_held (S:=fun X=>BoxN X q 31 (mdCells (frM (some ⟨bV,oV,none⟩) vc a ac b qc) s).toArray∧BoxN X (q+1) 46 (opCells op).toArray) (by kernel_rfl) ?_
  refine at_world (fun X=>(BoxN X q 31 (mdCells (frM (some ⟨bV,oV,none⟩) vc a ac b qc) s).toArray∧BoxN X (q+1) 46 (opCells op).toArray)∧RMem w0 X (some ⟨bV,oV,none⟩) vc a ac b qc vs s∧BoxN X (q+1+1) 31 #[.int .i64 0,.int .i64 0,.int .i64 0,.slice none 0 0,.int .i64 0,.slice none 0 0,.slice none 0 0]∧BoxN X (q+1+1+1) 49 #[.int .i64 0,.int .i64 0,.int .i64 0,.int .i64 0,.int .u32 0,.int .u32 0,.int .u64 0,.int .u64 0,.int .i64 0]∧Sl u32R X (.slice (some ⟨bb0,off,none⟩) f c0') (l.take f)∧Sl u32R X (.slice A2 (l.length-(f+1)) (c0'-(f+1))) (l.drop (f+1))∧Only3 a a b W X) ⟨⟨K2.out,P2.out⟩,H2.out.up (bdd (Below.refl _ _)),J2.out,G2.out,hS1.out.up (bdd (Below.refl _ _)),hS2.out.up (bdd (Below.refl _ _)),(Only3.of a a b B2'.out).trans (Only3.of a a b (bdd (Below.refl _ _)))⟩ fun w6 h6=> ?_
  have HSS:=h6.1
  have H6:=Lib.hid h6.2.1
  have J6:=Lib.hid h6.2.2.1
  have G6:=Lib.hid h6.2.2.2.1
  have S6:=Lib.hid h6.2.2.2.2.1
  have T6:=Lib.hid h6.2.2.2.2.2.1
  have O6:=Lib.hid h6.2.2.2.2.2.2
  have hsz6:=h6.2.2.2.2.2.2.size
  clear h6 H2 K2 P2 J2 G2 B2' hS1 hS2 HQ2
  refine takeTo (i:=0) (v:=.pointer (some ⟨q,6,none⟩)) (some 25) rfl rfl (by decide+kernel) (by decide+kernel) (by decide+kernel) (fun _ _ _ h=>h) (yieldsF rfl rfl (E.out.at 0 rfl) (fun W=>by kernel_rfl)) HSS ?_
  replace E:=Lib.hid (E.out.put 25 (.pointer (some ⟨q,6,none⟩)) (by decide) rfl)
  refine takeTo (i:=1) (v:=.slice (some ⟨b,0,none⟩) s.qs.length qc) (some 26) rfl rfl (by decide+kernel) (by decide+kernel) (by decide+kernel) (fun _ _ _ h=>h) (yieldsL rfl rfl (E.out.at 0 rfl) (fun W hS=>by(have cc:=hS.1.cell 6 (.slice (some ⟨b,0,none⟩) s.qs.length qc) rfl;have zw:=hS.1.lt;clear hS;go_simp))) HSS ?_
  replace E:=Lib.hid (E.out.put 26 (.slice (some ⟨b,0,none⟩) s.qs.length qc) (by decide) rfl)
  refine takeTo (i:=2) (v:=.pointer (some ⟨q+1,4,none⟩)) (some 27) rfl rfl (by decide+kernel) (by decide+kernel) (by decide+kernel) (fun _ _ _ h=>h) (yieldsF rfl rfl (E.out.at 3 rfl) (fun W=>by kernel_rfl)) HSS ?_
  replace E:=Lib.hid (E.out.put 27 (.pointer (some ⟨q+1,4,none⟩)) (by decide) rfl)
  refine takeTo (i:=3) (v:=.int .i64 (k:Int)) (some 28) rfl rfl (by decide+kernel) (by decide+kernel) (by decide+kernel) (fun _ _ _ h=>h) (yieldsL rfl rfl (E.out.at 0 rfl) (fun W hS=>by(have cc:=hS.2.cell 4 (.int .i64 op.section_) rfl;rw[HSEC.out] at cc;have zw:=hS.2.lt;clear hS;go_simp))) HSS ?_
  replace E:=Lib.hid (E.out.put 28 (.int .i64 (k:Int)) (by decide) rfl)
  refine takeTo (i:=5) (v:=.slice (some ⟨bb0,off,none⟩) l.length c0') (some 30) rfl rfl (by decide+kernel) (by decide+kernel) (by decide+kernel) (fun _ _ _ h=>h) (yieldsM rfl rfl (E.out.at 6 rfl)) HSS ?_
  replace E:=Lib.hid (E.out.put 30 (.slice (some ⟨bb0,off,none⟩) l.length c0') (by decide) rfl)
  refine takeTo (i:=6) (v:=.int .i64 (f:Int)) (some 31) rfl rfl (by decide+kernel) (by decide+kernel) (by decide+kernel) (fun _ _ _ h=>h) (yieldsM rfl rfl (E.out.at 8 rfl)) HSS ?_
  replace E:=Lib.hid (E.out.put 31 (.int .i64 (f:Int)) (by decide) rfl)
  refine takeTo (i:=9) (v:=.slice (some ⟨bb0,off,none⟩) l.length c0') (some 34) rfl rfl (by decide+kernel) (by decide+kernel) (by decide+kernel) (fun _ _ _ h=>h) (yieldsM rfl rfl (E.out.at 8 rfl)) HSS ?_
  replace E:=Lib.hid (E.out.put 34 (.slice (some ⟨bb0,off,none⟩) l.length c0') (by decide) rfl)
  refine takeTo (i:=10) (v:=.int .i64 (f:Int)) (some 35) rfl rfl (by decide+kernel) (by decide+kernel) (by decide+kernel) (fun _ _ _ h=>h) (yieldsM rfl rfl (E.out.at 10 rfl)) HSS ?_
  replace E:=Lib.hid (E.out.put 35 (.int .i64 (f:Int)) (by decide) rfl)
  have hbb':=hb.out
  clear hb E
  subst hbb'
  simp only[Act.put,List.setIfInBounds_toArray,List.set_cons_succ,List.set_cons_zero]
  refine takeTo (i:=7) (v:=.slice (some ⟨bb0,off,none⟩) f c0') (some 32) rfl rfl (by decide+kernel) (by decide+kernel) (by decide+kernel) (fun _ _ _ h=>h) (yieldsSl (.slice (some ⟨bb0,off,none⟩) l.length c0') none (some (.int .i64 (f:Int))) rfl rfl rfl rfl rfl (fun W=>sliceTo_run bb0 off _ _ f (by omega) hcap W)) HSS ?_
  refine takeTo (i:=11) (v:=.int .i64 (((f+1:Nat)):Int)) (some 36) rfl rfl (by decide+kernel) (by decide+kernel) (by decide+kernel) (fun _ _ _ h=>h) (.inl ⟨rfl,fun W hS=>by go_simp⟩) HSS ?_
  refine takeTo (i:=12) (v:=.slice A2 (l.length-(f+1)) (c0'-(f+1))) (some 37) rfl rfl (by decide+kernel) (by decide+kernel) (by decide+kernel) (fun _ _ _ h=>h) (yieldsSl (.slice (some ⟨bb0,off,none⟩) l.length c0') (some (.int .i64 (((f+1:Nat)):Int))) none rfl rfl rfl rfl rfl (fun W=>by rw[←HA2.out];exact sliceFrom_run bb0 off _ _ (f+1) hf1 W)) HSS ?_
  refine wpAnyH_all (rs:=[4]) (by decide+kernel) (by simp) fun j hj=> ?_
  obtain rfl:j=4:=by simpa using hj
  clear hj
  refine heldOp rfl fun K hK=> ?_
  go_wp2_with fail
  refine hK.out _ _ ⟨⟨HSS.1.alloc _,HSS.2.alloc _⟩, ?_⟩
  clear hK K
  refine wpAnyH_all (rs:=[8]) (by decide+kernel) (by simp) fun j hj=> ?_
  obtain rfl:j=8:=by simpa using hj
  clear hj
  refine heldOp rfl fun K hK=> ?_
  go_wp2_with (at_builtin;refine wpList_append_sl _ rfl (.tmp 29) (.tmp 32) 85 rfl u32R w6.heap.size 41 _ 4 Tryz.underlying85 infoU rfl (by decide) _ [] rfl (Own.empty _ _ _ (Nat.le_refl _)) _ (l.take f) rfl (S6.out.up (ba _ _)) (by simp;omega) (by decide) (by simp[World.size_alloc]) (fun w' _ cs y h=>u32R_flat _ _ _ _ h) ?_;intro v1 w7 hown1 hg1 hat1;rw[List.nil_append] at hown1)
  have hb7:=Lib.hid (show Below w6.heap.size w6 w7 from(ba w6 (.cells #[] 41)).grown hg1 (by simp[World.size_alloc]) (fun z hz=>by have:some w6.heap.size=some z:=hz;injection this;omega))
  have hsz7:=hb7.out.size
  refine hK.out _ _ ⟨⟨HSS.1.later hb7.out,HSS.2.later hb7.out⟩, ?_⟩
  clear hK K hg1 hat1
  refine wpAnyH_all (rs:=[13]) (by decide+kernel) (by simp) fun j hj=> ?_
  obtain rfl:j=13:=by simpa using hj
  clear hj
  refine heldOp rfl fun K hK=> ?_
  go_wp2_with (at_builtin;refine wpList_append_sl _ rfl (.tmp 33) (.tmp 37) 85 rfl u32R w6.heap.size 41 _ 4 Tryz.underlying85 infoU rfl (by decide) _ (l.take f) rfl hown1 _ (l.drop (f+1)) rfl (T6.out.up hb7.out) (by simp;omega) (by decide) hsz7 (fun w' _ cs y h=>u32R_flat _ _ _ _ h) ?_;intro v2 w8 hown2 hg2 hat2;rw[←List.eraseIdx_eq_take_drop_succ] at hown2;obtain⟨A9,c9,rfl,_,_,ho9⟩:=hown2.form)
  have hb8:=Lib.hid (show Below w6.heap.size w6 w8 from hb7.out.grown hg2 hsz7 (fun z hz=>(hown1.lt z hz).1))
  refine hK.out _ _ ⟨⟨HSS.1.later hb8.out,HSS.2.later hb8.out⟩, ?_⟩
  clear hK K hg2 hat2
  generalize hle:l.eraseIdx f=l' at*
  have hqs9:=QuT.of_own ho9
  refine at_world (fun X=>(BoxN X q 31 (mdCells (frM (some ⟨bV,oV,none⟩) vc a ac b qc) s).toArray∧BoxN X (q+1) 46 (opCells op).toArray)∧RMem w0 X (some ⟨bV,oV,none⟩) vc a ac b qc vs s∧BoxN X (q+1+1) 31 #[.int .i64 0,.int .i64 0,.int .i64 0,.slice none 0 0,.int .i64 0,.slice none 0 0,.slice none 0 0]∧BoxN X (q+1+1+1) 49 #[.int .i64 0,.int .i64 0,.int .i64 0,.int .i64 0,.int .u32 0,.int .u32 0,.int .u64 0,.int .u64 0,.int .i64 0]∧QuT X (.slice A9 l'.length c9) l'∧Only3 a a b W X) ⟨⟨HSS.1.later hb8.out,HSS.2.later hb8.out⟩,H6.out.up hb8.out,J6.out.later hb8.out,G6.out.later hb8.out,hqs9,O6.out.trans (Only3.of a a b hb8.out)⟩ fun w9 h9=> ?_
  clear hown1 ho9 hb7 hb8 H6 J6 G6 S6 T6 O6 hsz7 hsz6 HSS hqs9 hle
  have HSS:=h9.1
  have H9:=Lib.hid h9.2.1
  have J9:=Lib.hid h9.2.2.1
  have G9:=Lib.hid h9.2.2.2.1
  have Q9:=Lib.hid h9.2.2.2.2.1
  have O9':=Lib.hid h9.2.2.2.2.2
  have hsz9:=h9.2.2.2.2.2.size
  clear h9
  refine takeTo (i:=14) (v:=.pointer (some ⟨b,k,none⟩)) (some 39) rfl rfl (by decide+kernel) (by decide+kernel) (by decide+kernel) (fun _ _ _ h=>h) (.inl ⟨rfl,fun W hS=>by go_simp⟩) HSS ?_
  refine wpAnyH_all (rs:=[15]) (by decide+kernel) (by simp) fun j hj=> ?_
  obtain rfl:j=15:=by simpa using hj
  clear hj
  refine heldOp rfl fun K hK=> ?_
  obtain⟨Ax,cx,ex,_,fx⟩:=H9.out.list (k:=k) hk
  have fxk:=fx k
  have zb:=H9.out.bB.2
  clear fx
  go_wp2_with fail
  clear ex fxk
  obtain⟨hs1,hs2⟩:=H9.out.setQ (k:=k) hk Q9.out
  have hk9:=HSS.1.kept hs2 (fun e=>(Tag.of_box HSS.1).ne (Tag.of_own H9.out.qb) (by decide) (by injection e))
  have hp9:=HSS.2.kept hs2 (fun e=>(Tag.of_box HSS.2).ne (Tag.of_own H9.out.qb) (by decide) (by injection e))
  have hj9:=J9.out.kept hs2 (fun e=>(Tag.of_box J9.out).ne (Tag.of_own H9.out.qb) (by decide) (by injection e))
  have hg9:=G9.out.kept hs2 (fun e=>(Tag.of_box G9.out).ne (Tag.of_own H9.out.qb) (by decide) (by injection e))
  refine hK.out _ _ ⟨⟨hk9,hp9⟩, ?_⟩
  clear hK K
  refine wpAnyH_done (by decide+kernel) ?_ _
  refine at_world (fun X=>RMem w0 X (some ⟨bV,oV,none⟩) vc a ac b qc (vs.set k (.slice A9 l'.length c9)) {s with qs:=s.qs.set k l'}∧BoxN X q 31 (mdCells (frM (some ⟨bV,oV,none⟩) vc a ac b qc) {s with qs:=s.qs.set k l'}).toArray∧BoxN X (q+1+1) 31 #[.int .i64 0,.int .i64 0,.int .i64 0,.slice none 0 0,.int .i64 0,.slice none 0 0,.slice none 0 0]∧BoxN X (q+1+1+1) 49 #[.int .i64 0,.int .i64 0,.int .i64 0,.int .i64 0,.int .u32 0,.int .u32 0,.int .u64 0,.int .u64 0,.int .i64 0]∧Only3 a a b W X) ⟨hs1,by simpa[mdCells,frM] using hk9,hj9,hg9,O9'.out.trans (Only3.grown (g:=a) (a:=a) (b:=b) hs2 (.inr (.inr rfl)))⟩ fun w10 h10=> ?_
  clear hs1 hs2 hk9 hp9 hj9 hg9 HSS H9 J9 G9 Q9 O9'
  have H10:=Lib.hid h10.1
  have K10:=Lib.hid h10.2.1
  have J10:=Lib.hid h10.2.2.1
  have G10:=Lib.hid h10.2.2.2.1
  have O10:=Lib.hid h10.2.2.2.2
  have hsz10:=h10.2.2.2.2.size
  clear h10
  generalize {s with qs:=s.qs.set k l'}=sN at*
  obtain⟨ms,hms⟩:∃ms:List Value,ms=mdCells (frM (some ⟨bV,oV,none⟩) vc a ac b qc) sN:=⟨_,rfl⟩
  have HMS:=Lib.hid hms
  have KM:=Lib.hid (show BoxN _ q 31 ms.toArray by rw[hms];exact K10.out)
  have S1:=md_s hms
  have S1A:=md_S hms
  have L1:=md_l hms
  have O1:=md_o hms
  clear hms
  have S9:=rp_S (ms:=rpCells noRp) rfl
  have O9:=rp_o (ms:=rpCells noRp) rfl
  go_wp2_with (first|refine wpList_load_mid rfl 31 (.tmp 2) rfl q 0 rfl ms _ KM.out.range2 Tryz.underlying31 rfl S1.out ?_|refine wpList_store_row rfl 31 (.tmp 4) (.tmp 40) rfl (q+1+1) ms.toArray rfl rfl 31 _ J10.out S1A.out L1.out.symm O1.out ?_|refine wpList_store_row rfl 49 (.tmp 5) (.tmp 41) rfl (q+1+1+1) (rpCells noRp).toArray rfl rfl 49 _ (two_rows J10.out G10.out (by omega) ms.toArray #[]).1 S9.out rfl O9.out ?_)
  have hrow:=two_rows J10.out G10.out (by omega) ms.toArray (rpCells noRp).toArray
  refine at_world (fun Y=>RMem w0 Y (some ⟨bV,oV,none⟩) vc a ac b qc (vs.set k (.slice A9 l'.length c9)) sN∧BoxN Y (q+1+1) 31 ms.toArray∧BoxN Y (q+1+1+1) 49 (rpCells noRp).toArray∧Only3 a a b W Y) ⟨(H10.out.kept hrow.2.1 (Tag.of_box J10.out) (by omega) (by decide) (by decide) (by decide)).kept hrow.2.2.1 (Tag.of_box hrow.1) (by omega) (by decide) (by decide) (by decide),hrow.2.2.2.1,hrow.2.2.2.2,(O10.out.new hrow.2.1 (by omega)).new hrow.2.2.1 (by omega)⟩ fun Y hY=> ?_
  have k3:=hY.2.1
  have k4:=hY.2.2.1
  have hR:=hY.1
  have hO:=hY.2.2.2
  clear hY hrow
  rw[HMS.out] at k3
  have gg:=k3.x7
  have uu:=k4.x9
  clear k3 k4
  exact bodyPost_ret (v:=.tuple #[mdV (frM (some ⟨bV,oV,none⟩) vc a ac b qc) sN,RpV noRp]) (by simp[results,Tryz.results40,go_sem,mdV,RpV,gg,uu]) rfl (show ROp w0 W (some ⟨bV,oV,none⟩) vc a ac b qc MM _ _ from⟨(vs.set k (.slice A9 l'.length c9)),by rw[hM2.out],by rw[hM2.out];exact hR,hO⟩)
 ·have tk:(op.kind==11)=false:=by simpa using hkd
  have hM1:=Lib.hid (show MM=if lim≤(l.length:Int) then(s,{noRp with err:=5}) else if decide (0≤ix)=true then(s,{noRp with err:=8}) else({s with qs:=s.qs.set k (l++[op.owner])},{noRp with place:=(l.length:Int)+1}) by rw[hM.out,if_neg hkd])
  have e2:=HE2'.out
  have c3:=K2.out.cell 3 (.slice (some ⟨bV,oV,none⟩) s.ve.secs.length vc) rfl
  have p4:=P2.out.cell 4 (.int .i64 op.section_) rfl
  rw[HSEC.out] at p4
  have zq:=K2.out.lt
  have hk2:(k:Int)<(s.ve.secs.length:Int):=by omega
  clear hM hkd
  by_cases hlm:lim≤(l.length:Int)
  ·as_aux_lemma=>
   have t3:decide (lim≤(l.length:Int))=true:=decide_eq_true hlm
   have hM2:=Lib.hid (show MM=(s,{noRp with err:=5}) by rw[hM1.out,if_pos hlm])
   clear hM1 hlm HG
   obtain⟨ms,hms⟩:∃ms:List Value,ms=mdCells (frM (some ⟨bV,oV,none⟩) vc a ac b qc) s:=⟨_,rfl⟩
   have HMS:=Lib.hid hms
   have KM:=Lib.hid (show BoxN _ q 31 ms.toArray by rw[hms];exact K2.out)
   have S1:=md_s hms
   have S1A:=md_S hms
   have L1:=md_l hms
   have O1:=md_o hms
   clear hms
   have S9:=rp_S (ms:=rpCells {noRp with err:=5}) rfl
   have O9:=rp_o (ms:=rpCells {noRp with err:=5}) rfl
   go_wp2_with (first|refine wpList_load_mid rfl 31 (.tmp 2) rfl q 0 rfl ms _ KM.out.range2 Tryz.underlying31 rfl S1.out ?_|refine wpList_store_row rfl 31 (.tmp 4) (.tmp 53) rfl (q+1+1) ms.toArray rfl rfl 31 _ J2.out S1A.out L1.out.symm O1.out ?_|refine wpList_store_row rfl 49 (.tmp 5) (.tmp 54) rfl (q+1+1+1) (rpCells {noRp with err:=5}).toArray rfl rfl 49 _ (two_rows J2.out G2.out (by omega) ms.toArray #[]).1 S9.out rfl O9.out ?_)
   have hrow:=two_rows J2.out G2.out (by omega) ms.toArray (rpCells {noRp with err:=5}).toArray
   refine at_world (fun Y=>RMem w0 Y (some ⟨bV,oV,none⟩) vc a ac b qc vs s∧BoxN Y (q+1+1) 31 ms.toArray∧BoxN Y (q+1+1+1) 49 (rpCells {noRp with err:=5}).toArray∧Only3 a a b W Y) ⟨(H2.out.kept hrow.2.1 (Tag.of_box J2.out) (by omega) (by decide) (by decide) (by decide)).kept hrow.2.2.1 (Tag.of_box hrow.1) (by omega) (by decide) (by decide) (by decide),hrow.2.2.2.1,hrow.2.2.2.2,((Only3.of a a b B2'.out).new hrow.2.1 (by omega)).new hrow.2.2.1 (by omega)⟩ fun Y hY=> ?_
   have k3:=hY.2.1
   have k4:=hY.2.2.1
   have hR:=hY.1
   have hO:=hY.2.2.2
   clear hY hrow
   rw[HMS.out] at k3
   have gg:=k3.x7
   have uu:=k4.x9
   clear k3 k4
   exact bodyPost_ret (v:=.tuple #[mdV (frM (some ⟨bV,oV,none⟩) vc a ac b qc) s,RpV {noRp with err:=5}]) (by simp[results,Tryz.results40,go_sem,mdV,RpV,gg,uu]) rfl (show ROp w0 W (some ⟨bV,oV,none⟩) vc a ac b qc MM _ _ from⟨vs,by rw[hM2.out],by rw[hM2.out];exact hR,hO⟩)
  have t3:decide (lim≤(l.length:Int))=false:=decide_eq_false hlm
  by_cases hix:0≤ix
  ·as_aux_lemma=>
   have t4:decide (0≤ix)=true:=decide_eq_true hix
   have hM2:=Lib.hid (show MM=(s,{noRp with err:=8}) by rw[hM1.out,if_neg hlm,if_pos t4])
   clear hM1 hlm hix HG
   obtain⟨ms,hms⟩:∃ms:List Value,ms=mdCells (frM (some ⟨bV,oV,none⟩) vc a ac b qc) s:=⟨_,rfl⟩
   have HMS:=Lib.hid hms
   have KM:=Lib.hid (show BoxN _ q 31 ms.toArray by rw[hms];exact K2.out)
   have S1:=md_s hms
   have S1A:=md_S hms
   have L1:=md_l hms
   have O1:=md_o hms
   clear hms
   have S9:=rp_S (ms:=rpCells {noRp with err:=8}) rfl
   have O9:=rp_o (ms:=rpCells {noRp with err:=8}) rfl
   go_wp2_with (first|refine wpList_load_mid rfl 31 (.tmp 2) rfl q 0 rfl ms _ KM.out.range2 Tryz.underlying31 rfl S1.out ?_|refine wpList_store_row rfl 31 (.tmp 4) (.tmp 57) rfl (q+1+1) ms.toArray rfl rfl 31 _ J2.out S1A.out L1.out.symm O1.out ?_|refine wpList_store_row rfl 49 (.tmp 5) (.tmp 58) rfl (q+1+1+1) (rpCells {noRp with err:=8}).toArray rfl rfl 49 _ (two_rows J2.out G2.out (by omega) ms.toArray #[]).1 S9.out rfl O9.out ?_)
   have hrow:=two_rows J2.out G2.out (by omega) ms.toArray (rpCells {noRp with err:=8}).toArray
   refine at_world (fun Y=>RMem w0 Y (some ⟨bV,oV,none⟩) vc a ac b qc vs s∧BoxN Y (q+1+1) 31 ms.toArray∧BoxN Y (q+1+1+1) 49 (rpCells {noRp with err:=8}).toArray∧Only3 a a b W Y) ⟨(H2.out.kept hrow.2.1 (Tag.of_box J2.out) (by omega) (by decide) (by decide) (by decide)).kept hrow.2.2.1 (Tag.of_box hrow.1) (by omega) (by decide) (by decide) (by decide),hrow.2.2.2.1,hrow.2.2.2.2,((Only3.of a a b B2'.out).new hrow.2.1 (by omega)).new hrow.2.2.1 (by omega)⟩ fun Y hY=> ?_
   have k3:=hY.2.1
   have k4:=hY.2.2.1
   have hR:=hY.1
   have hO:=hY.2.2.2
   clear hY hrow
   rw[HMS.out] at k3
   have gg:=k3.x7
   have uu:=k4.x9
   clear k3 k4
   exact bodyPost_ret (v:=.tuple #[mdV (frM (some ⟨bV,oV,none⟩) vc a ac b qc) s,RpV {noRp with err:=8}]) (by simp[results,Tryz.results40,go_sem,mdV,RpV,gg,uu]) rfl (show ROp w0 W (some ⟨bV,oV,none⟩) vc a ac b qc MM _ _ from⟨vs,by rw[hM2.out],by rw[hM2.out];exact hR,hO⟩)
  have t4:decide (0≤ix)=false:=decide_eq_false hix
  have hM2:=Lib.hid (show MM=({s with qs:=s.qs.set k (l++[op.owner])},{noRp with place:=(l.length:Int)+1}) by rw[hM1.out,if_neg hlm,if_neg (by rw[t4];simp)])
  clear hM1 hlm hix HG
  go_upto_region 12 with fail
  clear c3 p4 e2 p0 zq zp
  go_cut [] from 59 to 70 (fun X=>JoinAt w0 W X (some ⟨bV,oV,none⟩) vc a ac b qc vs s k (l++[op.owner]) q)
  case first=>as_aux_lemma=>
   refine at_act fun bb hb=> ?_
   have E:=Lib.hid (show EvB bb 76 [(2,.pointer (some ⟨q,0,none⟩)),(3,.pointer (some ⟨q+1,0,none⟩)),(6,.slice A0 l.length c0')] from⟨by rw[hb.out];rfl,fun i v h=>by rw[hb.out];simp only[List.mem_cons,List.not_mem_nil,or_false,Prod.mk.injEq] at h;rcases h with⟨rfl,rfl⟩|⟨rfl,rfl⟩|⟨rfl,rfl⟩<;>rfl⟩)
   refine wp_region_held (S:=fun X=>BoxN X q 31 (mdCells (frM (some ⟨bV,oV,none⟩) vc a ac b qc) s).toArray∧BoxN X (q+1) 46 (opCells op).toArray) (by kernel_rfl) ?_
   refine at_world (fun X=>(BoxN X q 31 (mdCells (frM (some ⟨bV,oV,none⟩) vc a ac b qc) s).toArray∧BoxN X (q+1) 46 (opCells op).toArray)∧RMem w0 X (some ⟨bV,oV,none⟩) vc a ac b qc vs s∧BoxN X (q+1+1) 31 #[.int .i64 0,.int .i64 0,.int .i64 0,.slice none 0 0,.int .i64 0,.slice none 0 0,.slice none 0 0]∧BoxN X (q+1+1+1) 49 #[.int .i64 0,.int .i64 0,.int .i64 0,.int .i64 0,.int .u32 0,.int .u32 0,.int .u64 0,.int .u64 0,.int .i64 0]∧Sl u32R X (.slice A0 l.length c0') l∧Only3 a a b W X) ⟨⟨K2.out,P2.out⟩,H2.out.up (bdd (Below.refl _ _)),J2.out,G2.out,HQ2.out.1.up (bdd (Below.refl _ _)),(Only3.of a a b B2'.out).trans (Only3.of a a b (bdd (Below.refl _ _)))⟩ fun w6 h6=> ?_
   have HSS:=h6.1
   have H6:=Lib.hid h6.2.1
   have J6:=Lib.hid h6.2.2.1
   have G6:=Lib.hid h6.2.2.2.1
   have S6:=Lib.hid h6.2.2.2.2.1
   have O6:=Lib.hid h6.2.2.2.2.2
   clear h6 H2 K2 P2 J2 G2 B2' HQ2
   refine takeTo (i:=0) (v:=.pointer (some ⟨q,6,none⟩)) (some 59) rfl rfl (by decide+kernel) (by decide+kernel) (by decide+kernel) (fun _ _ _ h=>h) (yieldsF rfl rfl (E.out.at 0 rfl) (fun W=>by kernel_rfl)) HSS ?_
   replace E:=Lib.hid (E.out.put 59 (.pointer (some ⟨q,6,none⟩)) (by decide) rfl)
   refine takeTo (i:=1) (v:=.slice (some ⟨b,0,none⟩) s.qs.length qc) (some 60) rfl rfl (by decide+kernel) (by decide+kernel) (by decide+kernel) (fun _ _ _ h=>h) (yieldsL rfl rfl (E.out.at 0 rfl) (fun W hS=>by(have cc:=hS.1.cell 6 (.slice (some ⟨b,0,none⟩) s.qs.length qc) rfl;have zw:=hS.1.lt;clear hS;go_simp))) HSS ?_
   replace E:=Lib.hid (E.out.put 60 (.slice (some ⟨b,0,none⟩) s.qs.length qc) (by decide) rfl)
   refine takeTo (i:=2) (v:=.pointer (some ⟨q+1,4,none⟩)) (some 61) rfl rfl (by decide+kernel) (by decide+kernel) (by decide+kernel) (fun _ _ _ h=>h) (yieldsF rfl rfl (E.out.at 3 rfl) (fun W=>by kernel_rfl)) HSS ?_
   replace E:=Lib.hid (E.out.put 61 (.pointer (some ⟨q+1,4,none⟩)) (by decide) rfl)
   refine takeTo (i:=3) (v:=.int .i64 (k:Int)) (some 62) rfl rfl (by decide+kernel) (by decide+kernel) (by decide+kernel) (fun _ _ _ h=>h) (yieldsL rfl rfl (E.out.at 0 rfl) (fun W hS=>by(have cc:=hS.2.cell 4 (.int .i64 op.section_) rfl;rw[HSEC.out] at cc;have zw:=hS.2.lt;clear hS;go_simp))) HSS ?_
   replace E:=Lib.hid (E.out.put 62 (.int .i64 (k:Int)) (by decide) rfl)
   refine takeTo (i:=5) (v:=.slice A0 l.length c0') (some 64) rfl rfl (by decide+kernel) (by decide+kernel) (by decide+kernel) (fun _ _ _ h=>h) (yieldsM rfl rfl (E.out.at 6 rfl)) HSS ?_
   replace E:=Lib.hid (E.out.put 64 (.slice A0 l.length c0') (by decide) rfl)
   refine takeTo (i:=7) (v:=.pointer (some ⟨q+1,1,none⟩)) (some 66) rfl rfl (by decide+kernel) (by decide+kernel) (by decide+kernel) (fun _ _ _ h=>h) (yieldsF rfl rfl (E.out.at 6 rfl) (fun W=>by kernel_rfl)) HSS ?_
   replace E:=Lib.hid (E.out.put 66 (.pointer (some ⟨q+1,1,none⟩)) (by decide) rfl)
   refine takeTo (i:=8) (v:=.int .u32 op.owner) (some 67) rfl rfl (by decide+kernel) (by decide+kernel) (by decide+kernel) (fun _ _ _ h=>h) (yieldsL rfl rfl (E.out.at 0 rfl) (fun W hS=>by(have cc:=hS.2.cell 1 (.int .u32 op.owner) rfl;have zw:=hS.2.lt;clear hS;go_simp))) HSS ?_
   replace E:=Lib.hid (E.out.put 67 (.int .u32 op.owner) (by decide) rfl)
   have hbb':=hb.out
   clear hb E
   subst hbb'
   simp only[Act.put,List.setIfInBounds_toArray,List.set_cons_succ,List.set_cons_zero]
   have HBx:=Lib.hid (Below.refl w6.heap.size w6)
   have hw6:w6.heap.size≤w6.heap.size:=Nat.le_refl _
   have hszx:w6.heap.size≤w6.heap.size:=Nat.le_refl _
   have HBS:=HSS
   refine wpAnyH_all (rs:=[4,9]) (by decide+kernel) (by simp) fun j hj=> ?_
   have hjj:j=4∨j=9:=by simpa using hj
   clear hj
   rcases hjj with rfl|rfl
   ·skip
    refine heldOp rfl fun K hK=> ?_
    go_wp2_with fail
    refine hK.out _ _ ⟨⟨HSS.1.alloc _,HSS.2.alloc _⟩, ?_⟩
    clear hK K
    refine at_world (fun X=>Below w6.heap.size w6 X∧(BoxN X q 31 (mdCells (frM (some ⟨bV,oV,none⟩) vc a ac b qc) s).toArray∧BoxN X (q+1) 46 (opCells op).toArray)∧Own u32R 41 w6.heap.size X (.slice (some ⟨w6.heap.size,0,none⟩) 0 0) []∧w6.heap.size<X.heap.size) ⟨HBx.out.alloc hszx _,⟨HSS.1.alloc _,HSS.2.alloc _⟩,Own.empty _ _ _ hszx,by simp⟩ fun wj1 hx=> ?_
    clear HBx HSS hszx
    have HBx:=Lib.hid hx.1
    have HSS:=hx.2.1
    have hszx:w6.heap.size≤wj1.heap.size:=hx.1.size
    have HEx:=Lib.hid hx.2.2.1
    have hsswj1:=hx.2.2.2
    clear hx
    refine wpAnyH_all (rs:=[6,9]) (by decide+kernel) (by simp) fun j hj=> ?_
    have hjj:j=6∨j=9:=by simpa using hj
    clear hj
    rcases hjj with rfl|rfl
    ·skip
     refine heldOp rfl fun K hK=> ?_
     go_wp2_with (at_builtin;refine wpList_append_sl _ rfl (.tmp 63) (.tmp 64) 85 rfl u32R w6.heap.size 41 _ 4 Tryz.underlying85 infoU rfl (by decide) _ [] rfl HEx.out _ l rfl (S6.out.up (HBx.out)) (by simp;omega) (by decide) hszx (fun w' _ cs y h=>u32R_flat _ _ _ _ h) ?_;intro v1 w7 hown1 hg1 hat1;rw[List.nil_append] at hown1)
     have hg1':wj1.grownBy w7 (some w6.heap.size):=hg1
     have hb7:Below w6.heap.size w6 w7:=HBx.out.grown hg1' hszx (fun z hz=>by injection hz;omega)
     refine hK.out _ _ ⟨⟨HBS.1.later hb7,HBS.2.later hb7⟩, ?_⟩
     clear hK K
     refine at_world (fun X=>Below w6.heap.size w6 X∧(BoxN X q 31 (mdCells (frM (some ⟨bV,oV,none⟩) vc a ac b qc) s).toArray∧BoxN X (q+1) 46 (opCells op).toArray)∧Own u32R 41 w6.heap.size X v1 l∧wj1.heap.size≤X.heap.size) ⟨hb7,⟨HBS.1.later hb7,HBS.2.later hb7⟩,hown1,hg1.size⟩ fun wj2 hx=> ?_
     clear hown1 hg1 hg1' hat1 hb7
     clear HBx HSS hszx
     clear HEx
     have HBx:=Lib.hid hx.1
     have HSS:=hx.2.1
     have hszx:w6.heap.size≤wj2.heap.size:=hx.1.size
     have HLx:=Lib.hid hx.2.2.1
     have hsswj2:=hx.2.2.2
     clear hx
     refine wpAnyH_all (rs:=[9]) (by decide+kernel) (by simp) fun j hj=> ?_
     obtain rfl:j=9:=by simpa using hj
     clear hj
     refine heldOp rfl fun K hK=> ?_
     go_wp2_with fail
     refine hK.out _ _ ⟨⟨HSS.1.alloc _,HSS.2.alloc _⟩, ?_⟩
     clear hK K
     refine at_world (fun X=>Below w6.heap.size w6 X∧(BoxN X q 31 (mdCells (frM (some ⟨bV,oV,none⟩) vc a ac b qc) s).toArray∧BoxN X (q+1) 46 (opCells op).toArray)∧Own u32R 41 w6.heap.size X (.slice (some ⟨wj2.heap.size,0,none⟩) 1 1) [op.owner]∧Own u32R 41 w6.heap.size X v1 l∧wj2.heap.size<X.heap.size) ⟨HBx.out.alloc hszx _,⟨HSS.1.alloc _,HSS.2.alloc _⟩,own_oneU _ _ _ _ rfl hszx HO.out.2.1,HLx.out.up (ba _ _),by simp⟩ fun wj3 hx=> ?_
     clear HBx HSS hszx
     clear HLx
     have HBx:=Lib.hid hx.1
     have HSS:=hx.2.1
     have hszx:w6.heap.size≤wj3.heap.size:=hx.1.size
     have HDx:=Lib.hid hx.2.2.1
     have HLx:=Lib.hid hx.2.2.2.1
     have hsswj3:=hx.2.2.2.2
     clear hx
     refine wpAnyH_all (rs:=[10]) (by decide+kernel) (by simp) fun j hj=> ?_
     obtain rfl:j=10:=by simpa using hj
     clear hj
     refine heldOp rfl fun K hK=> ?_
     obtain⟨n,hn⟩:∃n,(l++[op.owner]).length=n:=⟨_,rfl⟩
     go_wp2_with (at_builtin;refine wpList_append_sl _ rfl (.tmp 65) (.tmp 68) 85 rfl u32R w6.heap.size 41 _ 4 Tryz.underlying85 infoU rfl (by decide) _ l rfl HLx.out _ [op.owner] rfl HDx.out.sl (by rw[List.length_singleton];omega) (by decide) hszx (fun w' _ cs y h=>u32R_flat _ _ _ _ h) ?_;intro v2 w8 hown2 hg2 hat2;obtain⟨A9,c9,rfl,_,_,ho9⟩:=hown2.form;rw[hn] at ho9⊢)
     have hb8:Below w6.heap.size w6 w8:=HBx.out.grown hg2 hszx (fun z hz=>(HLx.out.lt z hz).1)
     refine hK.out _ _ ⟨⟨HBS.1.later hb8,HBS.2.later hb8⟩, ?_⟩
     clear hK K
     have hqs9:=QuT.of_own ho9
     generalize hlo:l++[op.owner]=l' at*
     subst hn
     refine at_world (fun X=>(BoxN X q 31 (mdCells (frM (some ⟨bV,oV,none⟩) vc a ac b qc) s).toArray∧BoxN X (q+1) 46 (opCells op).toArray)∧RMem w0 X (some ⟨bV,oV,none⟩) vc a ac b qc vs s∧BoxN X (q+1+1) 31 #[.int .i64 0,.int .i64 0,.int .i64 0,.slice none 0 0,.int .i64 0,.slice none 0 0,.slice none 0 0]∧BoxN X (q+1+1+1) 49 #[.int .i64 0,.int .i64 0,.int .i64 0,.int .i64 0,.int .u32 0,.int .u32 0,.int .u64 0,.int .u64 0,.int .i64 0]∧QuT X (.slice A9 l'.length c9) l'∧Only3 a a b W X) ⟨⟨HBS.1.later hb8,HBS.2.later hb8⟩,H6.out.up hb8,J6.out.later hb8,G6.out.later hb8,hqs9,O6.out.trans (Only3.of a a b hb8)⟩ fun w9 h9=> ?_
     clear hown2 ho9 hg2 hat2 hb8 hqs9 hlo HLx HDx H6 J6 G6 O6 HBx
     have HSS:=h9.1
     have H9:=Lib.hid h9.2.1
     have J9:=Lib.hid h9.2.2.1
     have G9:=Lib.hid h9.2.2.2.1
     have Q9:=Lib.hid h9.2.2.2.2.1
     have O9':=Lib.hid h9.2.2.2.2.2
     clear h9
     refine takeTo (i:=11) (v:=.pointer (some ⟨b,k,none⟩)) (some 70) rfl rfl (by decide+kernel) (by decide+kernel) (by decide+kernel) (fun _ _ _ h=>h) (.inl ⟨rfl,fun W hS=>by go_simp⟩) HSS ?_
     refine wpAnyH_all (rs:=[12]) (by decide+kernel) (by simp) fun j hj=> ?_
     obtain rfl:j=12:=by simpa using hj
     clear hj
     refine heldOp rfl fun K hK=> ?_
     obtain⟨Ax,cx,ex,_,fx⟩:=H9.out.list (k:=k) hk
     have fxk:=fx k
     have zb:=H9.out.bB.2
     clear fx
     go_wp2_with fail
     clear ex fxk
     obtain⟨hs1,hs2⟩:=H9.out.setQ (k:=k) hk Q9.out
     have hk9:=HSS.1.kept hs2 (fun e=>(Tag.of_box HSS.1).ne (Tag.of_own H9.out.qb) (by decide) (by injection e))
     have hp9:=HSS.2.kept hs2 (fun e=>(Tag.of_box HSS.2).ne (Tag.of_own H9.out.qb) (by decide) (by injection e))
     have hj9:=J9.out.kept hs2 (fun e=>(Tag.of_box J9.out).ne (Tag.of_own H9.out.qb) (by decide) (by injection e))
     have hg9:=G9.out.kept hs2 (fun e=>(Tag.of_box G9.out).ne (Tag.of_own H9.out.qb) (by decide) (by injection e))
     refine hK.out _ _ ⟨⟨hk9,hp9⟩, ?_⟩
     clear hK K
     refine wpAnyH_done (by decide+kernel) ?_ _
     go_wp2_with fail
     go_meet
     exact⟨A9,c9,hs1,by simpa[mdCells,frM] using hk9,hj9,hg9,O9'.out.trans (Only3.grown (g:=a) (a:=a) (b:=b) hs2 (.inr (.inr rfl)))⟩
    ·skip
     refine heldOp rfl fun K hK=> ?_
     go_wp2_with fail
     refine hK.out _ _ ⟨⟨HSS.1.alloc _,HSS.2.alloc _⟩, ?_⟩
     clear hK K
     refine at_world (fun X=>Below w6.heap.size w6 X∧(BoxN X q 31 (mdCells (frM (some ⟨bV,oV,none⟩) vc a ac b qc) s).toArray∧BoxN X (q+1) 46 (opCells op).toArray)∧Own u32R 41 w6.heap.size X (.slice (some ⟨wj1.heap.size,0,none⟩) 1 1) [op.owner]∧Own u32R 41 w6.heap.size X (.slice (some ⟨w6.heap.size,0,none⟩) 0 0) []∧wj1.heap.size<X.heap.size) ⟨HBx.out.alloc hszx _,⟨HSS.1.alloc _,HSS.2.alloc _⟩,own_oneU _ _ _ _ rfl hszx HO.out.2.1,HEx.out.up (ba _ _),by simp⟩ fun wj5 hx=> ?_
     clear HBx HSS hszx
     clear HEx
     have HBx:=Lib.hid hx.1
     have HSS:=hx.2.1
     have hszx:w6.heap.size≤wj5.heap.size:=hx.1.size
     have HDx:=Lib.hid hx.2.2.1
     have HEx:=Lib.hid hx.2.2.2.1
     have hsswj5:=hx.2.2.2.2
     clear hx
     refine wpAnyH_all (rs:=[6]) (by decide+kernel) (by simp) fun j hj=> ?_
     obtain rfl:j=6:=by simpa using hj
     clear hj
     refine heldOp rfl fun K hK=> ?_
     go_wp2_with (at_builtin;refine wpList_append_sl _ rfl (.tmp 63) (.tmp 64) 85 rfl u32R w6.heap.size 41 _ 4 Tryz.underlying85 infoU rfl (by decide) _ [] rfl HEx.out _ l rfl (S6.out.up (HBx.out)) (by simp;omega) (by decide) hszx (fun w' _ cs y h=>u32R_flat _ _ _ _ h) ?_;intro v1 w7 hown1 hg1 hat1;rw[List.nil_append] at hown1)
     have hg1':wj5.grownBy w7 (some w6.heap.size):=hg1
     have hb7:Below w6.heap.size w6 w7:=HBx.out.grown hg1' hszx (fun z hz=>by injection hz;omega)
     refine hK.out _ _ ⟨⟨HBS.1.later hb7,HBS.2.later hb7⟩, ?_⟩
     clear hK K
     refine at_world (fun X=>Below w6.heap.size w6 X∧(BoxN X q 31 (mdCells (frM (some ⟨bV,oV,none⟩) vc a ac b qc) s).toArray∧BoxN X (q+1) 46 (opCells op).toArray)∧Own u32R 41 w6.heap.size X v1 l∧Own u32R 41 w6.heap.size X (.slice (some ⟨wj1.heap.size,0,none⟩) 1 1) [op.owner]∧wj5.heap.size≤X.heap.size) ⟨hb7,⟨HBS.1.later hb7,HBS.2.later hb7⟩,hown1,HDx.out.kept hg1' (fun z hz e=>by(have h1:some wj1.heap.size=some z:=hz);(have h2:some w6.heap.size=some z:=e);injection h1;injection h2;omega) (fun cs y h=>u32R_flat _ _ _ _ h),hg1.size⟩ fun wj6 hx=> ?_
     clear hown1 hg1 hg1' hat1 hb7
     clear HBx HSS hszx
     clear HEx HDx
     have HBx:=Lib.hid hx.1
     have HSS:=hx.2.1
     have hszx:w6.heap.size≤wj6.heap.size:=hx.1.size
     have HLx:=Lib.hid hx.2.2.1
     have HDx:=Lib.hid hx.2.2.2.1
     have hsswj6:=hx.2.2.2.2
     clear hx
     refine wpAnyH_all (rs:=[10]) (by decide+kernel) (by simp) fun j hj=> ?_
     obtain rfl:j=10:=by simpa using hj
     clear hj
     refine heldOp rfl fun K hK=> ?_
     obtain⟨n,hn⟩:∃n,(l++[op.owner]).length=n:=⟨_,rfl⟩
     go_wp2_with (at_builtin;refine wpList_append_sl _ rfl (.tmp 65) (.tmp 68) 85 rfl u32R w6.heap.size 41 _ 4 Tryz.underlying85 infoU rfl (by decide) _ l rfl HLx.out _ [op.owner] rfl HDx.out.sl (by rw[List.length_singleton];omega) (by decide) hszx (fun w' _ cs y h=>u32R_flat _ _ _ _ h) ?_;intro v2 w8 hown2 hg2 hat2;obtain⟨A9,c9,rfl,_,_,ho9⟩:=hown2.form;rw[hn] at ho9⊢)
     have hb8:Below w6.heap.size w6 w8:=HBx.out.grown hg2 hszx (fun z hz=>(HLx.out.lt z hz).1)
     refine hK.out _ _ ⟨⟨HBS.1.later hb8,HBS.2.later hb8⟩, ?_⟩
     clear hK K
     have hqs9:=QuT.of_own ho9
     generalize hlo:l++[op.owner]=l' at*
     subst hn
     refine at_world (fun X=>(BoxN X q 31 (mdCells (frM (some ⟨bV,oV,none⟩) vc a ac b qc) s).toArray∧BoxN X (q+1) 46 (opCells op).toArray)∧RMem w0 X (some ⟨bV,oV,none⟩) vc a ac b qc vs s∧BoxN X (q+1+1) 31 #[.int .i64 0,.int .i64 0,.int .i64 0,.slice none 0 0,.int .i64 0,.slice none 0 0,.slice none 0 0]∧BoxN X (q+1+1+1) 49 #[.int .i64 0,.int .i64 0,.int .i64 0,.int .i64 0,.int .u32 0,.int .u32 0,.int .u64 0,.int .u64 0,.int .i64 0]∧QuT X (.slice A9 l'.length c9) l'∧Only3 a a b W X) ⟨⟨HBS.1.later hb8,HBS.2.later hb8⟩,H6.out.up hb8,J6.out.later hb8,G6.out.later hb8,hqs9,O6.out.trans (Only3.of a a b hb8)⟩ fun w9 h9=> ?_
     clear hown2 ho9 hg2 hat2 hb8 hqs9 hlo HLx HDx H6 J6 G6 O6 HBx
     have HSS:=h9.1
     have H9:=Lib.hid h9.2.1
     have J9:=Lib.hid h9.2.2.1
     have G9:=Lib.hid h9.2.2.2.1
     have Q9:=Lib.hid h9.2.2.2.2.1
     have O9':=Lib.hid h9.2.2.2.2.2
     clear h9
     refine takeTo (i:=11) (v:=.pointer (some ⟨b,k,none⟩)) (some 70) rfl rfl (by decide+kernel) (by decide+kernel) (by decide+kernel) (fun _ _ _ h=>h) (.inl ⟨rfl,fun W hS=>by go_simp⟩) HSS ?_
     refine wpAnyH_all (rs:=[12]) (by decide+kernel) (by simp) fun j hj=> ?_
     obtain rfl:j=12:=by simpa using hj
     clear hj
     refine heldOp rfl fun K hK=> ?_
     obtain⟨Ax,cx,ex,_,fx⟩:=H9.out.list (k:=k) hk
     have fxk:=fx k
     have zb:=H9.out.bB.2
     clear fx
     go_wp2_with fail
     clear ex fxk
     obtain⟨hs1,hs2⟩:=H9.out.setQ (k:=k) hk Q9.out
     have hk9:=HSS.1.kept hs2 (fun e=>(Tag.of_box HSS.1).ne (Tag.of_own H9.out.qb) (by decide) (by injection e))
     have hp9:=HSS.2.kept hs2 (fun e=>(Tag.of_box HSS.2).ne (Tag.of_own H9.out.qb) (by decide) (by injection e))
     have hj9:=J9.out.kept hs2 (fun e=>(Tag.of_box J9.out).ne (Tag.of_own H9.out.qb) (by decide) (by injection e))
     have hg9:=G9.out.kept hs2 (fun e=>(Tag.of_box G9.out).ne (Tag.of_own H9.out.qb) (by decide) (by injection e))
     refine hK.out _ _ ⟨⟨hk9,hp9⟩, ?_⟩
     clear hK K
     refine wpAnyH_done (by decide+kernel) ?_ _
     go_wp2_with fail
     go_meet
     exact⟨A9,c9,hs1,by simpa[mdCells,frM] using hk9,hj9,hg9,O9'.out.trans (Only3.grown (g:=a) (a:=a) (b:=b) hs2 (.inr (.inr rfl)))⟩
   ·skip
    refine heldOp rfl fun K hK=> ?_
    go_wp2_with fail
    refine hK.out _ _ ⟨⟨HSS.1.alloc _,HSS.2.alloc _⟩, ?_⟩
    clear hK K
    refine at_world (fun X=>Below w6.heap.size w6 X∧(BoxN X q 31 (mdCells (frM (some ⟨bV,oV,none⟩) vc a ac b qc) s).toArray∧BoxN X (q+1) 46 (opCells op).toArray)∧Own u32R 41 w6.heap.size X (.slice (some ⟨w6.heap.size,0,none⟩) 1 1) [op.owner]∧w6.heap.size<X.heap.size) ⟨HBx.out.alloc hszx _,⟨HSS.1.alloc _,HSS.2.alloc _⟩,own_oneU _ _ _ _ rfl hszx HO.out.2.1,by simp⟩ fun wj8 hx=> ?_
    clear HBx HSS hszx
    have HBx:=Lib.hid hx.1
    have HSS:=hx.2.1
    have hszx:w6.heap.size≤wj8.heap.size:=hx.1.size
    have HDx:=Lib.hid hx.2.2.1
    have hsswj8:=hx.2.2.2
    clear hx
    refine wpAnyH_all (rs:=[4]) (by decide+kernel) (by simp) fun j hj=> ?_
    obtain rfl:j=4:=by simpa using hj
    clear hj
    refine heldOp rfl fun K hK=> ?_
    go_wp2_with fail
    refine hK.out _ _ ⟨⟨HSS.1.alloc _,HSS.2.alloc _⟩, ?_⟩
    clear hK K
    refine at_world (fun X=>Below w6.heap.size w6 X∧(BoxN X q 31 (mdCells (frM (some ⟨bV,oV,none⟩) vc a ac b qc) s).toArray∧BoxN X (q+1) 46 (opCells op).toArray)∧Own u32R 41 w6.heap.size X (.slice (some ⟨wj8.heap.size,0,none⟩) 0 0) []∧Own u32R 41 w6.heap.size X (.slice (some ⟨w6.heap.size,0,none⟩) 1 1) [op.owner]∧wj8.heap.size<X.heap.size) ⟨HBx.out.alloc hszx _,⟨HSS.1.alloc _,HSS.2.alloc _⟩,Own.empty _ _ _ hszx,HDx.out.up (ba _ _),by simp⟩ fun wj9 hx=> ?_
    clear HBx HSS hszx
    clear HDx
    have HBx:=Lib.hid hx.1
    have HSS:=hx.2.1
    have hszx:w6.heap.size≤wj9.heap.size:=hx.1.size
    have HEx:=Lib.hid hx.2.2.1
    have HDx:=Lib.hid hx.2.2.2.1
    have hsswj9:=hx.2.2.2.2
    clear hx
    refine wpAnyH_all (rs:=[6]) (by decide+kernel) (by simp) fun j hj=> ?_
    obtain rfl:j=6:=by simpa using hj
    clear hj
    refine heldOp rfl fun K hK=> ?_
    go_wp2_with (at_builtin;refine wpList_append_sl _ rfl (.tmp 63) (.tmp 64) 85 rfl u32R w6.heap.size 41 _ 4 Tryz.underlying85 infoU rfl (by decide) _ [] rfl HEx.out _ l rfl (S6.out.up (HBx.out)) (by simp;omega) (by decide) hszx (fun w' _ cs y h=>u32R_flat _ _ _ _ h) ?_;intro v1 w7 hown1 hg1 hat1;rw[List.nil_append] at hown1)
    have hg1':wj9.grownBy w7 (some wj8.heap.size):=hg1
    have hb7:Below w6.heap.size w6 w7:=HBx.out.grown hg1' hszx (fun z hz=>by injection hz;omega)
    refine hK.out _ _ ⟨⟨HBS.1.later hb7,HBS.2.later hb7⟩, ?_⟩
    clear hK K
    refine at_world (fun X=>Below w6.heap.size w6 X∧(BoxN X q 31 (mdCells (frM (some ⟨bV,oV,none⟩) vc a ac b qc) s).toArray∧BoxN X (q+1) 46 (opCells op).toArray)∧Own u32R 41 w6.heap.size X v1 l∧Own u32R 41 w6.heap.size X (.slice (some ⟨w6.heap.size,0,none⟩) 1 1) [op.owner]∧wj9.heap.size≤X.heap.size) ⟨hb7,⟨HBS.1.later hb7,HBS.2.later hb7⟩,hown1,HDx.out.kept hg1' (fun z hz e=>by(have h1:some w6.heap.size=some z:=hz);(have h2:some wj8.heap.size=some z:=e);injection h1;injection h2;omega) (fun cs y h=>u32R_flat _ _ _ _ h),hg1.size⟩ fun wj10 hx=> ?_
    clear hown1 hg1 hg1' hat1 hb7
    clear HBx HSS hszx
    clear HEx HDx
    have HBx:=Lib.hid hx.1
    have HSS:=hx.2.1
    have hszx:w6.heap.size≤wj10.heap.size:=hx.1.size
    have HLx:=Lib.hid hx.2.2.1
    have HDx:=Lib.hid hx.2.2.2.1
    have hsswj10:=hx.2.2.2.2
    clear hx
    refine wpAnyH_all (rs:=[10]) (by decide+kernel) (by simp) fun j hj=> ?_
    obtain rfl:j=10:=by simpa using hj
    clear hj
    refine heldOp rfl fun K hK=> ?_
    obtain⟨n,hn⟩:∃n,(l++[op.owner]).length=n:=⟨_,rfl⟩
    go_wp2_with (at_builtin;refine wpList_append_sl _ rfl (.tmp 65) (.tmp 68) 85 rfl u32R w6.heap.size 41 _ 4 Tryz.underlying85 infoU rfl (by decide) _ l rfl HLx.out _ [op.owner] rfl HDx.out.sl (by rw[List.length_singleton];omega) (by decide) hszx (fun w' _ cs y h=>u32R_flat _ _ _ _ h) ?_;intro v2 w8 hown2 hg2 hat2;obtain⟨A9,c9,rfl,_,_,ho9⟩:=hown2.form;rw[hn] at ho9⊢)
    have hb8:Below w6.heap.size w6 w8:=HBx.out.grown hg2 hszx (fun z hz=>(HLx.out.lt z hz).1)
    refine hK.out _ _ ⟨⟨HBS.1.later hb8,HBS.2.later hb8⟩, ?_⟩
    clear hK K
    have hqs9:=QuT.of_own ho9
    generalize hlo:l++[op.owner]=l' at*
    subst hn
    refine at_world (fun X=>(BoxN X q 31 (mdCells (frM (some ⟨bV,oV,none⟩) vc a ac b qc) s).toArray∧BoxN X (q+1) 46 (opCells op).toArray)∧RMem w0 X (some ⟨bV,oV,none⟩) vc a ac b qc vs s∧BoxN X (q+1+1) 31 #[.int .i64 0,.int .i64 0,.int .i64 0,.slice none 0 0,.int .i64 0,.slice none 0 0,.slice none 0 0]∧BoxN X (q+1+1+1) 49 #[.int .i64 0,.int .i64 0,.int .i64 0,.int .i64 0,.int .u32 0,.int .u32 0,.int .u64 0,.int .u64 0,.int .i64 0]∧QuT X (.slice A9 l'.length c9) l'∧Only3 a a b W X) ⟨⟨HBS.1.later hb8,HBS.2.later hb8⟩,H6.out.up hb8,J6.out.later hb8,G6.out.later hb8,hqs9,O6.out.trans (Only3.of a a b hb8)⟩ fun w9 h9=> ?_
    clear hown2 ho9 hg2 hat2 hb8 hqs9 hlo HLx HDx H6 J6 G6 O6 HBx
    have HSS:=h9.1
    have H9:=Lib.hid h9.2.1
    have J9:=Lib.hid h9.2.2.1
    have G9:=Lib.hid h9.2.2.2.1
    have Q9:=Lib.hid h9.2.2.2.2.1
    have O9':=Lib.hid h9.2.2.2.2.2
    clear h9
    refine takeTo (i:=11) (v:=.pointer (some ⟨b,k,none⟩)) (some 70) rfl rfl (by decide+kernel) (by decide+kernel) (by decide+kernel) (fun _ _ _ h=>h) (.inl ⟨rfl,fun W hS=>by go_simp⟩) HSS ?_
    refine wpAnyH_all (rs:=[12]) (by decide+kernel) (by simp) fun j hj=> ?_
    obtain rfl:j=12:=by simpa using hj
    clear hj
    refine heldOp rfl fun K hK=> ?_
    obtain⟨Ax,cx,ex,_,fx⟩:=H9.out.list (k:=k) hk
    have fxk:=fx k
    have zb:=H9.out.bB.2
    clear fx
    go_wp2_with fail
    clear ex fxk
    obtain⟨hs1,hs2⟩:=H9.out.setQ (k:=k) hk Q9.out
    have hk9:=HSS.1.kept hs2 (fun e=>(Tag.of_box HSS.1).ne (Tag.of_own H9.out.qb) (by decide) (by injection e))
    have hp9:=HSS.2.kept hs2 (fun e=>(Tag.of_box HSS.2).ne (Tag.of_own H9.out.qb) (by decide) (by injection e))
    have hj9:=J9.out.kept hs2 (fun e=>(Tag.of_box J9.out).ne (Tag.of_own H9.out.qb) (by decide) (by injection e))
    have hg9:=G9.out.kept hs2 (fun e=>(Tag.of_box G9.out).ne (Tag.of_own H9.out.qb) (by decide) (by injection e))
    refine hK.out _ _ ⟨⟨hk9,hp9⟩, ?_⟩
    clear hK K
    refine wpAnyH_done (by decide+kernel) ?_ _
    go_wp2_with fail
    go_meet
    exact⟨A9,c9,hs1,by simpa[mdCells,frM] using hk9,hj9,hg9,O9'.out.trans (Only3.grown (g:=a) (a:=a) (b:=b) hs2 (.inr (.inr rfl)))⟩
  case rest=>
   obtain⟨A9,c9,h10⟩:=hcut
   rename World=>w10
   have H10:=Lib.hid h10.1
   have K10:=Lib.hid h10.2.1
   have J10:=Lib.hid h10.2.2.1
   have G10:=Lib.hid h10.2.2.2.1
   have O10:=Lib.hid h10.2.2.2.2
   have hsz10:=h10.2.2.2.2.size
   clear h10 H2 K2 P2 J2 G2 B2'
   generalize {s with qs:=s.qs.set k (l++[op.owner])}=sN at*
   generalize vs.set k (.slice A9 (l++[op.owner]).length c9)=vsN at*
   have hll1:(l.length:Int)+1≤1000001:=by omega
   obtain⟨ms,hms⟩:∃ms:List Value,ms=mdCells (frM (some ⟨bV,oV,none⟩) vc a ac b qc) sN:=⟨_,rfl⟩
   have HMS:=Lib.hid hms
   have KM:=Lib.hid (show BoxN _ q 31 ms.toArray by rw[hms];exact K10.out)
   have S1:=md_s hms
   have S1A:=md_S hms
   have L1:=md_l hms
   have O1:=md_o hms
   clear hms
   have S9:=rp_S (ms:=rpCells {noRp with place:=(l.length:Int)+1}) rfl
   have O9:=rp_o (ms:=rpCells {noRp with place:=(l.length:Int)+1}) rfl
   go_wp2_with (first|refine wpList_load_mid rfl 31 (.tmp 2) rfl q 0 rfl ms _ KM.out.range2 Tryz.underlying31 rfl S1.out ?_|refine wpList_store_row rfl 31 (.tmp 4) (.tmp 71) rfl (q+1+1) ms.toArray rfl rfl 31 _ J10.out S1A.out L1.out.symm O1.out ?_|refine wpList_store_row rfl 49 (.tmp 5) (.tmp 75) rfl (q+1+1+1) (rpCells {noRp with place:=(l.length:Int)+1}).toArray rfl rfl 49 _ (two_rows J10.out G10.out (by omega) ms.toArray #[]).1 S9.out rfl O9.out ?_)
   have hrow:=two_rows J10.out G10.out (by omega) ms.toArray (rpCells {noRp with place:=(l.length:Int)+1}).toArray
   refine at_world (fun Y=>RMem w0 Y (some ⟨bV,oV,none⟩) vc a ac b qc vsN sN∧BoxN Y (q+1+1) 31 ms.toArray∧BoxN Y (q+1+1+1) 49 (rpCells {noRp with place:=(l.length:Int)+1}).toArray∧Only3 a a b W Y) ⟨(H10.out.kept hrow.2.1 (Tag.of_box J10.out) (by omega) (by decide) (by decide) (by decide)).kept hrow.2.2.1 (Tag.of_box hrow.1) (by omega) (by decide) (by decide) (by decide),hrow.2.2.2.1,hrow.2.2.2.2,(O10.out.new hrow.2.1 (by omega)).new hrow.2.2.1 (by omega)⟩ fun Y hY=> ?_
   have k3:=hY.2.1
   have k4:=hY.2.2.1
   have hR:=hY.1
   have hO:=hY.2.2.2
   clear hY hrow
   rw[HMS.out] at k3
   have gg:=k3.x7
   have uu:=k4.x9
   clear k3 k4
   exact bodyPost_ret (v:=.tuple #[mdV (frM (some ⟨bV,oV,none⟩) vc a ac b qc) sN,RpV {noRp with place:=(l.length:Int)+1}]) (by simp[results,Tryz.results40,go_sem,mdV,RpV,gg,uu]) rfl (show ROp w0 W (some ⟨bV,oV,none⟩) vc a ac b qc MM _ _ from⟨vsN,by rw[hM2.out],by rw[hM2.out];exact hR,hO⟩)
end Go.Proofs.YtlckmjiioohcmaaGreatDoor
