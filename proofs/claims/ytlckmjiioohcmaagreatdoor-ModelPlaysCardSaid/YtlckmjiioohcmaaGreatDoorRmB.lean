/-
  Walk of groundlingref23.offered. Conditions: as the theorem says.
-/
import Derived.Test.YtlckmjiioohcmaaGreatDoorRmA
namespace Go.Proofs.YtlckmjiioohcmaaGreatDoor
open Go.RowKit
def ROff (w0 W:World) (V:Option Addr) (vc a ac b qc:Nat) (M:Md) (e:Ending) (w':World):Prop:=
 ∃vs',e=.returned (mdV (frM V vc a ac b qc) M)∧RMem w0 w' V vc a ac b qc vs' M∧Only3 a a b W w'
set_option maxHeartbeats 8000000 in
set_option maxRecDepth 20000 in
theorem rOffered_any {w0 W:World} {V:Option Addr} {vc a ac b qc:Nat} {vs:List Value} {s:Md} (h:RMem w0 W V vc a ac b qc vs s) {i:Nat} (hi:i<s.seats.length) (hp:0≤(placeV s.ve i).1.sec) (hq:secOf s i<s.qs.length) (hll:∀l∈s.qs,l.length≤1000000):
 Calls Tryz.prog 72 #[mdV (frM V vc a ac b qc) s,.int .i64 (i:Int)] W (ROff w0 W V vc a ac b qc (offerM s i)):=by
 have C1:=Lib.hid (fun X (hb:Below W.heap.size W X)=>rplace_any ((h.ve.up h.bw).up hb) (i:Int))
 have hT:=Lib.hid (show offerM s i=match s.qs[secOf s i]? with
  |some (o::l)=>{s with seats:=s.seats.set i (sxHold (seatAt s i) o (untilM s s.ve.ttl)).1,qs:=s.qs.set (secOf s i) l}
  |_=>s from rfl)
 rw[List.getElem?_eq_getElem hq] at hT
 have hsx:(placeV s.ve i).1.sec=((secOf s i:Nat):Int):=by unfold secOf;omega
 generalize hk:secOf s i=k at*
 generalize offerM s i=M at hT⊢
 rw[hsx] at C1
 generalize(placeV s.ve i).1.row=pr at*
 generalize(placeV s.ve i).1.seat=ps at*
 generalize(placeV s.ve i).2=pe at*
 have HLL:=Lib.hid hll
 have H:=Lib.hid h
 have MVk:=Lib.hid (show mdV (frM V vc a ac b qc) s=.agg (mdCells (frM V vc a ac b qc) s).toArray from rfl)
 clear h hsx hp hk hll
 unfold mdV frM
 simp only
 go_enter Tryz.func72,Tryz.ntmps72
 go_upto_region 1 with fail
 obtain⟨q,hqq⟩:∃q,W.heap.size=q:=⟨_,rfl⟩
 rw[hqq]
 refine at_world (fun X=>Below W.heap.size W X∧BoxN X q 31 (mdCells (frM V vc a ac b qc) s).toArray∧BoxN X (q+1) 31 #[.int .i64 0,.int .i64 0,.int .i64 0,.slice none 0 0,.int .i64 0,.slice none 0 0,.slice none 0 0]) (two_boxes hqq _ _ _ _) fun w1 hw1=> ?_
 have hw0s:=H.out.bw.size
 have B1:=Lib.hid hw1.1
 have K1:=Lib.hid hw1.2.1
 have J1:=Lib.hid hw1.2.2
 clear hw1
 have c0:=K1.out.cell 0 (.int .i64 s.ve.shards) rfl
 have c1:=K1.out.cell 1 (.int .i64 s.ve.ttl) rfl
 have c2:=K1.out.cell 2 (.int .i64 s.ve.session) rfl
 have c3:=K1.out.cell 3 (.slice V s.ve.secs.length vc) rfl
 have zq:=K1.out.lt
 go_wp2_with fail
 refine(C1.out _ B1.out).mono ?_
 rintro e w2 ⟨rfl,hb2⟩
 have B2:=Lib.hid (B1.out.trans (hb2.mono B1.out.size))
 have K2:=Lib.hid (K1.out.later hb2)
 have J2:=Lib.hid (J1.out.later hb2)
 clear hb2 c0 c1 c2 c3 zq K1 J1 B1
 go_upto_region 2 with fail
 obtain⟨p,hpp⟩:∃p,w2.heap.size=p:=⟨_,rfl⟩
 rw[hpp]
 refine at_world (fun X=>Below W.heap.size W X∧BoxN X q 31 (mdCells (frM V vc a ac b qc) s).toArray∧BoxN X (q+1) 31 #[.int .i64 0,.int .i64 0,.int .i64 0,.slice none 0 0,.int .i64 0,.slice none 0 0,.slice none 0 0]∧BoxN X p 157 #[.int .i64 (k:Int),.int .i64 pr,.int .i64 ps]) ⟨bal B2.out,K2.out.alloc _,J2.out.alloc _,hpp▸BoxN.new w2 _ _⟩ fun w3 hw3=> ?_
 have B3:=Lib.hid hw3.1
 have K3:=Lib.hid hw3.2.1
 have J3:=Lib.hid hw3.2.2.1
 have P3:=Lib.hid hw3.2.2.2
 have H3:=Lib.hid (H.out.up hw3.1)
 have hqp:q+1<p:=by have:=J2.out.lt;omega
 clear hw3 B2 K2 J2 C1 H hpp
 have c6:=K3.out.cell 6 (.slice (some ⟨b,0,none⟩) s.qs.length qc) rfl
 have p0:=P3.out.cell 0 (.int .i64 (k:Int)) rfl
 have zq:=K3.out.lt
 have zp:=P3.out.lt
 have zj:=J3.out.lt
 have hk0:(0:Int)≤(k:Int):=by omega
 have hk1:(k:Int)<(s.qs.length:Int):=by omega
 have hqW:W.heap.size≤q:=by omega
 obtain⟨A1,d1,e0,hqt,hbf⟩:=H3.out.list hq
 have zb:=H3.out.bB.2
 have HQ3:=Lib.hid hqt
 clear hqt hbf
 have hlk:=HLL.out _ (List.getElem_mem hq)
 generalize hl:s.qs[k]=l at*
 have HL:=Lib.hid hl
 clear hl
 cases l with
 |nil=>
  obtain rfl:M=s:=hT.out
  clear hT
  obtain⟨ms,hms⟩:∃ms:List Value,ms=mdCells (frM V vc a ac b qc) M:=⟨_,rfl⟩
  have HMS:=Lib.hid hms
  have KM:=Lib.hid (show BoxN _ q 31 ms.toArray by rw[hms];exact K3.out)
  have S1:=md_s hms
  have S1A:=md_S hms
  have L1:=md_l hms
  have O1:=md_o hms
  clear hms
  go_wp2_with (first|refine wpList_load_mid rfl 31 (.tmp 2) rfl q 0 rfl ms _ KM.out.range2 Tryz.underlying31 rfl S1.out ?_|refine wpList_store_row rfl 31 (.tmp 4) (.tmp 24) rfl (q+1) ms.toArray rfl rfl 31 _ J3.out S1A.out L1.out.symm O1.out ?_)
  have hrow:=grownBy_setRow J3.out ms.toArray
  refine at_world (fun Y=>RMem w0 Y V vc a ac b qc vs M∧BoxN Y (q+1) 31 ms.toArray∧Only3 a a b W Y) ⟨H3.out.kept hrow.1 (Tag.of_box J3.out) (by omega) (by decide) (by decide) (by decide),hrow.2,(Only3.of a a b B3.out).new hrow.1 (by omega)⟩ fun Y hY=> ?_
  have k3:=hY.2.1
  have hR:=hY.1
  have hO:=hY.2.2
  clear hY hrow
  rw[HMS.out] at k3
  have gg:=k3.x7
  clear k3
  exact bodyPost_ret (v:=mdV (frM V vc a ac b qc) M) (by simp[results,Tryz.results72,go_sem,mdV,gg]) rfl (show ROff w0 W V vc a ac b qc M _ _ from⟨vs,rfl,hR,hO⟩)
 |cons o l=>
  obtain⟨bb,off,rfl,hbb,ho0,hou⟩:=HQ3.out.1.atU (k:=0) (by simp)
  simp only[List.getElem_cons_zero,Nat.add_zero] at ho0 hou
  obtain⟨d0,d1',d2,d3,d4,hfs,hxo⟩:=H3.out.seat hi
  have hx:seatAt s i=s.seats[i]:=by simp[seatAt,hi]
  simp only[hx] at hT
  clear hx
  have za:=H3.out.aB.2
  have hub:Bd (untilM s s.ve.ttl):=addT_bd _ _ H3.out.bn H3.out.bv.2.1
  have HR:=Lib.hid (sxHold_ok (owner:=o) (d:=untilM s s.ve.ttl) hxo hou hub)
  have c2:=fun X=>rUntil_any (frM V vc a ac b qc) s s.ve.ttl X H3.out.bn H3.out.bv.2.1
  have C3:=Lib.hid (fun X=>r16Hold_any s.seats[i] o (untilM s s.ve.ttl) X)
  unfold mdV frM at c2
  simp only at c2
  have C2:=Lib.hid c2
  have c1:=K3.out.cell 1 (.int .i64 s.ve.ttl) rfl
  clear hub hxo hou hfs c2
  generalize s.seats[i]=x at*
  generalize untilM s s.ve.ttl=D at*
  generalize hr:sxHold x o D=R at C3 HR hT
  clear hr
  obtain⟨⟨r0,r1,r2,r3,r4⟩,re⟩:=R
  unfold sxV at C3
  simp only at C3 hT
  have hi0:(0:Int)≤(i:Int):=by omega
  have hi1:(i:Int)<(s.seats.length:Int):=by omega
  have hl0:(0:Int)<((o::l).length:Int):=by simp
  have hl1:decide ((0:Int)<((o::l).length:Int))=true:=by simp
  have hl2:(((o::l).length:Int)==0)=false:=by simp;omega
  go_upto_region 5 with fail
  have g5:=gro_cell (K3.out.cell 5 (.slice (some ⟨a,0,none⟩) s.seats.length ac) rfl)
  have g0:=gro_cell (K3.out.cell 0 (.int .i64 s.ve.shards) rfl)
  have g1:=gro_cell (K3.out.cell 1 (.int .i64 s.ve.ttl) rfl)
  have g2:=gro_cell (K3.out.cell 2 (.int .i64 s.ve.session) rfl)
  have g3:=gro_cell (K3.out.cell 3 (.slice V s.ve.secs.length vc) rfl)
  have g4:=gro_cell (K3.out.cell 4 (.int .i64 s.now) rfl)
  have g6:=gro_cell (K3.out.cell 6 (.slice (some ⟨b,0,none⟩) s.qs.length qc) rfl)
  have o0:=gro_cell ho0
  have s0:=gro_cell d0
  have s1:=gro_cell d1'
  have s2:=gro_cell d2
  have s3:=gro_cell d3
  have s4:=gro_cell d4
  clear d0 d1' d2 d3 d4 ho0 c1 c6 p0 e0 hbb
  refine wp_region_gro_late 21 19 (by kernel_rfl) (by kernel_rfl) (fun _ _ _ _ _ h=>h) ?_
  simp only[List.take_succ_cons,List.take_zero,List.drop_succ_cons,List.drop_zero]
  repeat(go_big_quiet_step (first|(go_at_call 37;exact Calls.gro_of (C2.out _))|(go_at_call 74;exact Calls.gro_of (C3.out _))|fail))
  refine wpQuiet_nil ?_
  rintro _ ⟨pg,rfl⟩
  have hg:=gro_below w3 pg
  have H4:=Lib.hid (H3.out.up hg)
  have K4:=Lib.hid (K3.out.later hg)
  have J4:=Lib.hid (J3.out.later hg)
  have P4:=Lib.hid (P3.out.later hg)
  have HQ4:=Lib.hid (HQ3.out.up hg)
  have B4:=Lib.hid (bstep B3.out hg)
  clear g0 g1 g2 g3 g4 g5 g6 o0 s0 s1 s2 s3 s4 hg
  generalize gro w3 pg=w4 at H4 K4 J4 P4 HQ4 B4⊢
  obtain⟨d0,d1',d2,d3,d4,hf,_⟩:=H4.out.seat hi
  have f0:=hf (i*5)
  have f1:=hf (i*5+1)
  have f2:=hf (i*5+2)
  have f3:=hf (i*5+3)
  have f4:=hf (i*5+4)
  have za:=H4.out.aB.2
  obtain⟨hs1,hs2⟩:=H4.out.set hi HR.out
  simp only[putAt,sxCells] at hs1 hs2
  have hq5:=HQ4.out.kept hs2 (Tag.of_own H4.out.ss) (by decide)
  have hp5:=P4.out.kept hs2 (fun e=>(Tag.of_box P4.out).ne (Tag.of_own H4.out.ss) (by decide) (by injection e))
  have hk5:=K4.out.kept hs2 (fun e=>(Tag.of_box K4.out).ne (Tag.of_own H4.out.ss) (by decide) (by injection e))
  have hj5:=J4.out.kept hs2 (fun e=>(Tag.of_box J4.out).ne (Tag.of_own H4.out.ss) (by decide) (by injection e))
  have ho5:=(Only3.of a a b B4.out).trans (Only3.grown (g:=a) (a:=a) (b:=b) hs2 (.inl rfl))
  have hall:=And.intro hs1 (And.intro hk5 (And.intro hj5 (And.intro hp5 (And.intro hq5 ho5))))
  clear hf hs1 hs2 hq5 hp5 hk5 hj5 ho5
  go_upto_region 6 with fail
  refine at_world (fun X=>RMem w0 X V vc a ac b qc vs (setM s i ⟨r0,r1,r2,r3,r4⟩)∧BoxN X q 31 (mdCells (frM V vc a ac b qc) s).toArray∧BoxN X (q+1) 31 #[.int .i64 0,.int .i64 0,.int .i64 0,.slice none 0 0,.int .i64 0,.slice none 0 0,.slice none 0 0]∧BoxN X p 157 #[.int .i64 (k:Int),.int .i64 pr,.int .i64 ps]∧QuT X (.slice (some ⟨bb,off,none⟩) (o::l).length d1) (o::l)∧Only3 a a b W X) hall fun w5 h5=> ?_
  have hsz5:=h5.2.2.2.2.2.size
  clear hall d0 d1' d2 d3 d4 f0 f1 f2 f3 f4 za zb zq zp zj
  have H5:=Lib.hid h5.1
  have K5:=Lib.hid h5.2.1
  have J5:=Lib.hid h5.2.2.1
  have P5:=Lib.hid h5.2.2.2.1
  have HQ5:=Lib.hid h5.2.2.2.2.1
  have HO5:=Lib.hid h5.2.2.2.2.2
  clear h5 H4 K4 J4 P4 HQ4 B4 H3 K3 J3 P3 HQ3 B3 C2 C3 HR
  have hcap':l.length+1≤d1:=by
   obtain⟨_,_,heq,hcap,hcm,_⟩:=HQ5.out.1
   injection heq with e1 e2 e3
   subst e3
   exact hcap
  have hd63:d1≤9223372036854775807:=by
   obtain⟨_,_,heq,hcap,hcm,_⟩:=HQ5.out.1
   injection heq with e1 e2 e3
   subst e3
   exact hcm
  have hQN:QuT w5 (.slice (if d1=1 then some ⟨bb,off,none⟩ else some ⟨bb,off+1,none⟩) l.length (d1-1)) l:=by
   by_cases h1:d1=1
   ·subst h1
    have hl0:l=[]:=List.eq_nil_of_length_eq_zero (by omega)
    subst hl0
    exact⟨⟨_,_,rfl,by simp,by simp,.inl ⟨rfl,rfl⟩⟩,fun h=>absurd rfl h⟩
   ·rw[if_neg h1]
    exact HQ5.out.tail
  have HQN:=Lib.hid hQN.1
  have hb1:(1:Int)≤((l.length:Int)+1):=by omega
  have hb2:((l.length:Int)+1)≤(d1:Int):=by omega
  have hM:=Lib.hid (show M={(setM s i ⟨r0,r1,r2,r3,r4⟩) with qs:=s.qs.set k l} from hT.out)
  have hlen:l.length≤1000000:=by simp at hlk;omega
  clear hQN hT
  have hva:Tryz.prog.follows .mixedOrders=true:=by kernel_rfl
  generalize hA:(if d1=1 then some ⟨bb,off,none⟩ else some ⟨bb,off+1,none⟩:Option Addr)=A2 at HQN
  have HA2:=Lib.hid hA
  have HSL:∀(S:World→Prop) (ops:Array Oper) (x:Act),True:=fun _ _ _=>trivial
  clear HSL hA hva
  refine wp_region_held (S:=fun X=>BoxN X q 31 #[.int .i64 s.ve.shards,.int .i64 s.ve.ttl,.int .i64 s.ve.session,.slice V s.ve.secs.length vc,.int .i64 s.now,.slice (some ⟨a,0,none⟩) s.seats.length ac,.slice (some ⟨b,0,none⟩) s.qs.length qc]∧BoxN X p 157 #[.int .i64 (k:Int),.int .i64 pr,.int .i64 ps]) (by kernel_rfl) ?_
  refine at_world (fun X=>RMem w0 X V vc a ac b qc vs (setM s i ⟨r0,r1,r2,r3,r4⟩)∧(BoxN X q 31 #[.int .i64 s.ve.shards,.int .i64 s.ve.ttl,.int .i64 s.ve.session,.slice V s.ve.secs.length vc,.int .i64 s.now,.slice (some ⟨a,0,none⟩) s.seats.length ac,.slice (some ⟨b,0,none⟩) s.qs.length qc]∧BoxN X p 157 #[.int .i64 (k:Int),.int .i64 pr,.int .i64 ps])∧BoxN X (q+1) 31 #[.int .i64 0,.int .i64 0,.int .i64 0,.slice none 0 0,.int .i64 0,.slice none 0 0,.slice none 0 0]∧Sl u32R X (.slice A2 l.length (d1-1)) l∧Only3 a a b W X) ⟨H5.out.up (bdd (Below.refl _ _)),⟨K5.out,P5.out⟩,J5.out,HQN.out.up (bdd (Below.refl _ _)),HO5.out.trans (Only3.of a a b (bdd (Below.refl _ _)))⟩ fun w6 h6=> ?_
  have hsz6:=h6.2.2.2.2.size
  have HSS:=h6.2.1
  have H6:=Lib.hid h6.1
  have J6:=Lib.hid h6.2.2.1
  have HQ6:=Lib.hid h6.2.2.2.1
  have HO6:=Lib.hid h6.2.2.2.2
  clear h6 H5 K5 J5 P5 HQ5 HO5 HQN
  refine takeTo (i:=0) (v:=.pointer (some ⟨q,6,none⟩)) (some 46) rfl rfl (by decide+kernel) (by decide+kernel) (by decide+kernel) (fun _ _ _ h=>h) (.inl ⟨rfl,fun W hS=>by go_simp⟩) HSS ?_
  refine takeTo (i:=1) (v:=.slice (some ⟨b,0,none⟩) s.qs.length qc) (some 47) rfl rfl (by decide+kernel) (by decide+kernel) (by decide+kernel) (fun _ _ _ h=>h) (.inl ⟨rfl,fun W hS=>by(have c6:=hS.1.cell 6 (.slice (some ⟨b,0,none⟩) s.qs.length qc) rfl;have zw:=hS.1.lt;clear hS;go_simp)⟩) HSS ?_
  refine takeTo (i:=2) (v:=.pointer (some ⟨p,0,none⟩)) (some 48) rfl rfl (by decide+kernel) (by decide+kernel) (by decide+kernel) (fun _ _ _ h=>h) (.inl ⟨rfl,fun W hS=>by go_simp⟩) HSS ?_
  refine takeTo (i:=3) (v:=.int .i64 (k:Int)) (some 49) rfl rfl (by decide+kernel) (by decide+kernel) (by decide+kernel) (fun _ _ _ h=>h) (.inl ⟨rfl,fun W hS=>by(have c6:=hS.2.cell 0 (.int .i64 (k:Int)) rfl;have zw:=hS.2.lt;clear hS;go_simp)⟩) HSS ?_
  refine takeTo (i:=5) (v:=.slice (some ⟨bb,off,none⟩) (o::l).length d1) (some 51) rfl rfl (by decide+kernel) (by decide+kernel) (by decide+kernel) (fun _ _ _ h=>h) (.inl ⟨rfl,fun W hS=>by go_simp⟩) HSS ?_
  refine takeTo (i:=6) (v:=.slice A2 l.length (d1-1)) (some 52) rfl rfl (by decide+kernel) (by decide+kernel) (by decide+kernel) (fun _ _ _ h=>h) (.inl ⟨rfl,fun W hS=>by(rw[←HA2.out];by_cases h1:d1=1<;>go_simp)⟩) HSS ?_
  refine wpAnyH_all (rs:=[4]) (by decide+kernel) (by simp) fun j hj=> ?_
  obtain rfl:j=4:=by simpa using hj
  clear hj
  refine heldOp rfl fun K hK=> ?_
  go_wp2_with fail
  refine hK.out _ _ ⟨⟨HSS.1.alloc _,HSS.2.alloc _⟩, ?_⟩
  clear hK K
  refine wpAnyH_all (rs:=[7]) (by decide+kernel) (by simp) fun j hj=> ?_
  obtain rfl:j=7:=by simpa using hj
  clear hj
  refine heldOp rfl fun K hK=> ?_
  go_wp2_with (at_builtin;refine wpList_append_sl _ rfl (.tmp 50) (.tmp 52) 85 rfl u32R w6.heap.size 41 _ 4 Tryz.underlying85 infoU rfl (by decide) _ [] rfl (Own.empty _ _ _ (Nat.le_refl _)) _ l rfl (HQ6.out.up (ba _ _)) (by simp;omega) (by decide) (by simp[World.size_alloc]) (fun w' _ cs y h=>u32R_flat _ _ _ _ h) ?_;intro v1 w7 hown1 hg1 hat1;rw[List.nil_append] at hown1;obtain⟨A7,c7,rfl,_,_,ho7⟩:=hown1.form)
  have hb7:Below w6.heap.size w6 w7:=(ba w6 (.cells #[] 41)).grown hg1 (by simp[World.size_alloc]) (fun z hz=>by have:some w6.heap.size=some z:=hz;injection this;omega)
  have hS7:=And.intro (HSS.1.later hb7) (HSS.2.later hb7)
  refine hK.out _ _ ⟨hS7, ?_⟩
  clear hK K
  refine at_world (fun X=>RMem w0 X V vc a ac b qc vs (setM s i ⟨r0,r1,r2,r3,r4⟩)∧(BoxN X q 31 #[.int .i64 s.ve.shards,.int .i64 s.ve.ttl,.int .i64 s.ve.session,.slice V s.ve.secs.length vc,.int .i64 s.now,.slice (some ⟨a,0,none⟩) s.seats.length ac,.slice (some ⟨b,0,none⟩) s.qs.length qc]∧BoxN X p 157 #[.int .i64 (k:Int),.int .i64 pr,.int .i64 ps])∧BoxN X (q+1) 31 #[.int .i64 0,.int .i64 0,.int .i64 0,.slice none 0 0,.int .i64 0,.slice none 0 0,.slice none 0 0]∧QuT X (.slice A7 l.length c7) l∧Only3 a a b W X) ⟨H6.out.up hb7,hS7,J6.out.later hb7,QuT.of_own ho7,HO6.out.trans (Only3.of a a b hb7)⟩ fun w8 h8=> ?_
  clear ho7 hown1 hg1 hat1 hb7 hS7 HSS H6 J6 HQ6 HO6 hsz6
  have hsz8:=h8.2.2.2.2.size
  have HSS:=h8.2.1
  have H8:=Lib.hid h8.1
  have J8:=Lib.hid h8.2.2.1
  have HQ8:=Lib.hid h8.2.2.2.1
  have HO8:=Lib.hid h8.2.2.2.2
  clear h8
  refine takeTo (i:=8) (v:=.pointer (some ⟨b,k,none⟩)) (some 54) rfl rfl (by decide+kernel) (by decide+kernel) (by decide+kernel) (fun _ _ _ h=>h) (.inl ⟨rfl,fun W hS=>by go_simp⟩) HSS ?_
  refine wpAnyH_all (rs:=[9]) (by decide+kernel) (by simp) fun j hj=> ?_
  obtain rfl:j=9:=by simpa using hj
  clear hj
  refine heldOp rfl fun K hK=> ?_
  obtain⟨A9,c9,e9,_,f9⟩:=H8.out.list (k:=k) (by simpa[setM] using hq)
  have f9k:=f9 k
  have zb:=H8.out.bB.2
  clear f9
  go_wp2_with fail
  clear e9 f9k
  obtain⟨hs1,hs2⟩:=H8.out.setQ (k:=k) (by simpa[setM] using hq) HQ8.out
  have hk9:=HSS.1.kept hs2 (fun e=>(Tag.of_box HSS.1).ne (Tag.of_own H8.out.qb) (by decide) (by injection e))
  have hp9:=HSS.2.kept hs2 (fun e=>(Tag.of_box HSS.2).ne (Tag.of_own H8.out.qb) (by decide) (by injection e))
  have hj9:=J8.out.kept hs2 (fun e=>(Tag.of_box J8.out).ne (Tag.of_own H8.out.qb) (by decide) (by injection e))
  refine hK.out _ _ ⟨⟨hk9,hp9⟩, ?_⟩
  clear hK K
  refine wpAnyH_done (by decide+kernel) ?_ _
  refine at_world (fun X=>RMem w0 X V vc a ac b qc (vs.set k (.slice A7 l.length c7)) M∧BoxN X q 31 (mdCells (frM V vc a ac b qc) M).toArray∧BoxN X (q+1) 31 #[.int .i64 0,.int .i64 0,.int .i64 0,.slice none 0 0,.int .i64 0,.slice none 0 0,.slice none 0 0]∧Only3 a a b W X) ⟨by rw[hM.out];exact hs1,by rw[hM.out];simpa[mdCells,frM,setM] using hk9,hj9,HO8.out.trans (Only3.grown (g:=a) (a:=a) (b:=b) hs2 (.inr (.inr rfl)))⟩ fun w9 h9=> ?_
  clear hs1 hs2 hk9 hp9 hj9 HSS H8 J8 HQ8 HO8 hM
  have H9:=Lib.hid h9.1
  have K9:=Lib.hid h9.2.1
  have J9:=Lib.hid h9.2.2.1
  have HO9:=Lib.hid h9.2.2.2
  have hsz9:=h9.2.2.2.size
  clear h9
  obtain⟨ms,hms⟩:∃ms:List Value,ms=mdCells (frM V vc a ac b qc) M:=⟨_,rfl⟩
  have HMS:=Lib.hid hms
  have KM:=Lib.hid (show BoxN _ q 31 ms.toArray by rw[hms];exact K9.out)
  have S1:=md_s hms
  have S1A:=md_S hms
  have L1:=md_l hms
  have O1:=md_o hms
  clear hms
  go_wp2_with (first|refine wpList_load_mid rfl 31 (.tmp 2) rfl q 0 rfl ms _ KM.out.range2 Tryz.underlying31 rfl S1.out ?_|refine wpList_store_row rfl 31 (.tmp 4) (.tmp 55) rfl (q+1) ms.toArray rfl rfl 31 _ J9.out S1A.out L1.out.symm O1.out ?_)
  have hrow:=grownBy_setRow J9.out ms.toArray
  refine at_world (fun Y=>RMem w0 Y V vc a ac b qc (vs.set k (.slice A7 l.length c7)) M∧BoxN Y (q+1) 31 ms.toArray∧Only3 a a b W Y) ⟨H9.out.kept hrow.1 (Tag.of_box J9.out) (by omega) (by decide) (by decide) (by decide),hrow.2,HO9.out.new hrow.1 (by omega)⟩ fun Y hY=> ?_
  have k3:=hY.2.1
  have hR:=hY.1
  have hO:=hY.2.2
  clear hY hrow
  rw[HMS.out] at k3
  have gg:=k3.x7
  clear k3
  exact bodyPost_ret (v:=mdV (frM V vc a ac b qc) M) (by simp[results,Tryz.results72,go_sem,mdV,gg]) rfl (show ROff w0 W V vc a ac b qc M _ _ from⟨(vs.set k (.slice A7 l.length c7)),rfl,hR,hO⟩)
end Go.Proofs.YtlckmjiioohcmaaGreatDoor
