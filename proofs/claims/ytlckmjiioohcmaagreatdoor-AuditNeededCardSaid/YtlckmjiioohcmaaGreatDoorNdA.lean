/-
  Walks of groundlinglaw32's session, time, set, put. Conditions: as each theorem says.
-/
import Derived.Test.YtlckmjiioohcmaaGreatDoorPlNg
import Derived.Test.YtlckmjiioohcmaaGreatDoorPyd
import Derived.Deep.MidRow
import Derived.Great.BuildSlice
namespace Go.Proofs.YtlckmjiioohcmaaGreatDoor
open Go.RowKit
set_option maxRecDepth 20000 in
set_option maxHeartbeats 8000000 in
theorem sess32_any (k:Int) (W:World):Calls Tryz.prog 47 #[.int .i64 k] W fun e w'=>e=.returned (.bool (decide (k≠1∧k≠9∧k≠12)))∧w'=W:=by
 obtain⟨R,hR⟩:∃R,decide (k≠1∧k≠9∧k≠12)=R:=⟨_,rfl⟩
 have HR:=Lib.hid hR
 rw[hR]
 clear hR
 by_cases h1:k=1
 ·subst h1
  obtain rfl:R=false:=by rw[←HR.out];rfl
  go_enter Tryz.func47,Tryz.ntmps47
  go_wp2_with fail
  go_ret
  exact⟨rfl,rfl⟩
 by_cases h2:k=9
 ·subst h2
  obtain rfl:R=false:=by rw[←HR.out];rfl
  go_enter Tryz.func47,Tryz.ntmps47
  go_wp2_with fail
  go_ret
  exact⟨rfl,rfl⟩
 by_cases h3:k=12
 ·subst h3
  obtain rfl:R=false:=by rw[←HR.out];rfl
  go_enter Tryz.func47,Tryz.ntmps47
  go_wp2_with fail
  go_ret
  exact⟨rfl,rfl⟩
 obtain rfl:R=true:=by rw[←HR.out];simp[h1,h2,h3]
 have t1:(k !=1)=true:=by simpa using h1
 have t2:(k !=9)=true:=by simpa using h2
 have t3:(k !=12)=true:=by simpa using h3
 clear h1 h2 h3
 go_enter Tryz.func47,Tryz.ntmps47
 go_wp2_with fail
 go_ret
 exact⟨rfl,rfl⟩
theorem timeM_succ {l:List (MOp×MRp)} {i:Nat} (h:i<l.length):timeM l (i+1)=timeStep (timeM l i) l[i]:=by
 unfold timeM
 rw[List.take_succ_eq_append_getElem h,List.foldl_append]
 rfl
set_option maxRecDepth 20000 in
set_option maxHeartbeats 8000000 in
theorem time_any {W:World} {L:Option Addr} {lc:Nat} {l:List (MOp×MRp)} (hl:Sl stR W (.slice L l.length lc) l) {n:Nat} (hn:n≤l.length):
 Calls Tryz.prog 48 #[.slice L l.length lc,.int .i64 (n:Int)] W fun e w'=>e=.returned (.int .i64 (timeM l n))∧w'=W:=by
 have hcap:=hl.cap
 have HL:=Lib.hid hl
 clear hl
 go_enter Tryz.func48,Tryz.ntmps48
 go_wp2_with fail
 go_loopw [5,6] (fun t iv wr=> ∃i:Nat,i≤n∧iv=.int .i64 (i:Int)∧t=.int .i64 (timeM l i)∧wr=W) (fun _ iv _=>n-(intOf iv).toNat)
 case atStart=>exact⟨0,Nat.zero_le _,rfl,rfl,rfl⟩
 case round=>
  obtain⟨i,hi,rfl,rfl,rfl⟩:=hrel
  by_cases hlt:i<n
  case neg=>
   obtain rfl:i=n:=by omega
   have t0:decide ((i:Int)<(i:Int))=false:=by simp
   go_wp2_with fail
   go_ret
   exact⟨rfl,rfl⟩
  have t0:decide ((i:Int)<(n:Int))=true:=decide_eq_true (by omega)
  have hi0:(0:Int)≤(i:Int):=by omega
  have hi1:(i:Int)<(l.length:Int):=by omega
  have hil:i<l.length:=by omega
  obtain⟨bl,off,cs,rfl,hbl,⟨hcs,hoo,hrr⟩,hat⟩:=HL.out.at_ hil
  have HNX:=Lib.hid (timeM_succ hil)
  generalize l[i]=p at*
  subst hcs
  have b0:wr.cell? ⟨bl,off+i*21,none⟩=some (.int .i64 p.1.kind):=hat 0 _ rfl
  have b11:wr.cell? ⟨bl,off+i*21+11,none⟩=some (.int .i64 p.1.now):=hat 11 _ rfl
  have b12:wr.cell? ⟨bl,off+i*21+12,none⟩=some (.int .i64 p.2.err):=hat 12 _ rfl
  clear hat hoo hrr
  by_cases h1:p.1.kind=12
  case neg=>
   have t1:(p.1.kind==12)=false:=by simpa using h1
   have e1:timeM l (i+1)=timeM l i:=by rw[HNX.out,timeStep,if_neg (fun h=>h1 h.1)]
   have E1:=Lib.hid e1
   clear h1 e1
   go_wp2_with fail
   go_roundw
   case rel=>exact⟨i+1,by omega,by go_num,by rw[E1.out],trivial⟩
   case measure=>simp[intOf];omega
  have t1:(p.1.kind==12)=true:=by simpa using h1
  by_cases h2:p.2.err=0
  case neg=>
   have t2:(p.2.err==0)=false:=by simpa using h2
   have e1:timeM l (i+1)=timeM l i:=by rw[HNX.out,timeStep,if_neg (fun h=>h2 h.2)]
   have E1:=Lib.hid e1
   clear h1 h2 e1
   go_wp2_with fail
   go_roundw
   case rel=>exact⟨i+1,by omega,by go_num,by rw[E1.out],trivial⟩
   case measure=>simp[intOf];omega
  have t2:(p.2.err==0)=true:=by simpa using h2
  have e1:timeM l (i+1)=p.1.now:=by rw[HNX.out,timeStep,if_pos ⟨h1,h2⟩]
  have E1:=Lib.hid e1
  clear h1 h2 e1
  go_wp2_with fail
  go_roundw
  case rel=>exact⟨i+1,by omega,by go_num,by rw[E1.out],trivial⟩
  case measure=>simp[intOf];omega
theorem setCells_putAt:∀(us:List Value) (w:World) (g off:Nat),w.setCells g off us=putAt w g off us
 |[],_,_,_=>rfl
 |u::us,w,g,off=>setCells_putAt us (w.setCell ⟨g,off,none⟩ u) g (off+1)
theorem Own.thereAt {α:Type} {R:Rep α} {e B c k:Nat} {g n:Nat} {w:World} {ys:List α} (h:Own R e B w (.slice (some ⟨g,0,none⟩) n c) ys) (hk:k<ys.length) {m:Nat} (hm:m=R.size):w.there g (k*R.size) m:=fun j hj=>by
 obtain⟨cs,h1,h2,h3⟩:=h.cell_ hk
 have hlt:j<cs.length:=by rw[R.len h1];omega
 exact⟨by rw[h2 j cs[j] (List.getElem?_eq_getElem hlt)];rfl,h3 _⟩
set_option maxRecDepth 20000 in
set_option maxHeartbeats 8000000 in
theorem setS_any {W:World} {L:Option Addr} {lc:Nat} {l:List (MOp×MRp)} (hl:Sl stR W (.slice L l.length lc) l) (hlen:l.length≤1000) {i:Nat} (hi:i<l.length) {p:MOp×MRp} {ds:List Value} (hp:stR.is W ds p):
 Calls Tryz.prog 49 #[.slice L l.length lc,.int .i64 (i:Int),.agg ds.toArray] W fun e w'=> ∃A c,e=.returned (.slice A l.length c)∧Own stR 73 W.heap.size w' (.slice A l.length c) (l.set i p)∧Below W.heap.size W w':=by
 have hcap:=hl.cap
 have HL:=Lib.hid hl
 have HP:=Lib.hid hp
 have HD:=Lib.hid (show ds.length=21 from stR.len hp)
 have H1:=Lib.hid (show ds.toArray.all (·.oneCell')=true from all_oneCell_toArray (stR.one hp))
 have S2:=Lib.hid (show(Tryz.prog.info? 73).map (·.size)=some ds.length by rw[HD.out];kernel_rfl)
 have S3:=Lib.hid (show(Tryz.prog.info? 73).map (·.size)=some ds.toArray.size by rw[List.size_toArray,HD.out];kernel_rfl)
 clear hl hp
 go_enter Tryz.func49,Tryz.ntmps49
 go_upto_region 1 with fail
 refine at_world (fun X=>Below W.heap.size W X∧BoxN X W.heap.size 73 ds.toArray) ⟨ba _ _,BoxN.new _ _ _⟩ fun w0 hw0=> ?_
 have B0:=Lib.hid hw0.1
 have K0:=Lib.hid hw0.2
 clear hw0
 go_upto_region 2 with(at_builtin;refine wpList_append_sl _ rfl (.tmp 8) (.tmp 9) 53 rfl stR W.heap.size 73 _ 152 Tryz.underlying53 infoSt rfl (by decide) _ [] rfl (Own.empty _ _ _ B0.out.size) _ l rfl ((HL.out.up B0.out).up (ba _ _)) (by simp;omega) (by decide) (by simp[World.size_alloc];have:=B0.out.size;omega) (fun w' _ cs y h=>stR_flat _ _ _ _ h) ?_;intro v1 w2 hown1 hg1 hat1;rw[List.nil_append] at hown1;obtain⟨A1,ac,rfl,_,_,ho⟩:=hown1.form;have K2:=Lib.hid ((K0.out.alloc (.cells #[] 73)).kept hg1 (fun e=>absurd (show some W.heap.size=some w0.heap.size from e) (by have:=K0.out.lt;simp;omega))))
 have hb2:Below W.heap.size W w2:=(bal (o:=.cells #[] 73) B0.out).grown hg1 (by simp[World.size_alloc];have:=B0.out.size;omega) (fun z hz=>by have:some w0.heap.size=some z:=hz;injection this;have:=B0.out.size;omega)
 have B2:=Lib.hid hb2
 have HO:=Lib.hid ho
 obtain⟨g,cs,rfl,_,_,_,_,_⟩:=ho.at_ hi
 clear hb2 ho hown1 hg1 hat1 K0 B0
 have hi0:(0:Int)≤(i:Int):=by omega
 have hi1:(i:Int)<(l.length:Int):=by omega
 go_wp2_with (first|refine wpList_load_mid rfl 73 (.tmp 5) rfl W.heap.size 0 rfl ds _ K2.out.range2 Tryz.underlying73 rfl S2.out ?_|refine wpList_store_mid rfl 73 (.tmp 14) (.tmp 13) rfl g (i*21) ds.toArray (by go_simp) rfl (HO.out.thereAt hi (by rw[List.size_toArray];exact HD.out)) S3.out H1.out ?_)
 go_ret
 obtain⟨h1,h2⟩:=HO.out.put hi HP.out (fun w' _ cs y h=>stR_flat _ _ _ _ h)
 refine⟨_,_,rfl, ?_, ?_⟩
 ·rw[setCells_putAt];exact h1
 ·rw[setCells_putAt];exact B2.out.grown h2 B2.out.size (fun k hk=>by injection hk with hk;have:=(HO.out.lt g rfl).1;omega)
theorem Sl.frontN {α:Type} {R:Rep α} {w:World} {A:Option Addr} {n c:Nat} {xs:List α} (h:Sl R w (.slice A n c) xs) {p:Nat} (hp:p≤xs.length):Sl R w (.slice A (xs.take p).length c) (xs.take p):=by
 obtain⟨A',d,he,h1,h2,h3⟩:=h
 injection he with e1 e2 e3
 subst e1 e3
 refine⟨_,_,rfl,by rw[List.length_take];omega,h2, ?_⟩
 rcases h3 with⟨h3,h4⟩|⟨b,off,hA,hlt,hcells⟩
 ·exact .inl ⟨by rw[List.length_take];omega,h4⟩
 ·refine .inr ⟨b,off,hA,hlt,fun i x hi=> ?_⟩
  rw[List.getElem?_take] at hi
  split at hi
  ·exact hcells i x hi
  ·cases hi
theorem wpList_build_st {ops:Array Oper} {rest:List Oper} {o:Oper} {a:Act} {w:World} {Q:Exit→Act→World→Prop} (hg:o.guard=none) (y:Operand) (ho:o.op=.buildSlice 53 1 #[(0,y)]) (p:MOp×MRp) (hy:a.eval y=.agg (stCells p).toArray)
 (h:wpList Tryz.prog ops Q rest (a.put o.dst (.slice (some ⟨w.heap.size,0,none⟩) 1 1)) (w.alloc (.cells (stCells p).toArray 73))):wpList Tryz.prog ops Q (o::rest) a w:=by
 have hi:=infoSt
 cases hie:Tryz.prog.info? 73 with
 |none=>simp[hie] at hi
 |some ie=>
  rw[hie] at hi
  simp only[Option.map_some,Option.some.injEq,Prod.mk.injEq] at hi
  have hs:ie.size=21:=hi.2.1
  refine wpList_buildSlice hg _ 73 1 _ ho (stCells p).toArray ie _ Tryz.underlying53 hie hi.1 (by rw[hs];decide) (by rw[hs];decide) ?_ h
  rw[hs]
  simp only[List.map_toArray,List.map_cons,List.map_nil,hy]
  kernel_rfl
set_option maxRecDepth 20000 in
set_option maxHeartbeats 8000000 in
theorem put_any {W:World} {L:Option Addr} {lc:Nat} {l:List (MOp×MRp)} (hl:Sl stR W (.slice L l.length lc) l) (hlen:l.length≤1000) {i:Nat} (hi:i<l.length) {p:MOp×MRp} (hp:OpOk p.1∧RpOk p.2):
 Calls Tryz.prog 46 #[.slice L l.length lc,.int .i64 (i:Int),.agg (stCells p).toArray] W fun e w'=> ∃A c,e=.returned (.slice A (putM l i p).length c)∧Own stR 73 W.heap.size w' (.slice A (putM l i p).length c) (putM l i p)∧Below W.heap.size W w':=by
 have hcap:=hl.cap
 have HL:=Lib.hid hl
 have HP:=Lib.hid hp
 obtain⟨ds,hds⟩:∃ds,stCells p=ds:=⟨_,rfl⟩
 have HDS:=Lib.hid hds
 have S2:=Lib.hid (show(Tryz.prog.info? 73).map (·.size)=some ds.length by rw[←hds];kernel_rfl)
 have HPM:=Lib.hid (show l.take (i+1)++p::l.drop (i+1)=putM l i p from rfl)
 obtain⟨bl,off,cs0,rfl,hbl,-,-⟩:=hl.at_ hi
 rw[hds]
 clear hl hp hds
 have hi0:(0:Int)≤(i:Int):=by omega
 have hi1:(i:Int)<(l.length:Int):=by omega
 go_enter Tryz.func46,Tryz.ntmps46
 go_upto_region 1 with fail
 refine at_world (fun X=>Below W.heap.size W X∧BoxN X W.heap.size 73 ds.toArray) ⟨ba _ _,BoxN.new _ _ _⟩ fun w0 hw0=> ?_
 have B0:=Lib.hid hw0.1
 have K0:=Lib.hid hw0.2
 clear hw0
 have HF:=Lib.hid (show Sl stR W (.slice (some ⟨bl,off,none⟩) (i+1) lc) (l.take (i+1)) by have h:=HL.out.frontN (p:=i+1) (by omega);rw[List.length_take,Nat.min_eq_left (by omega)] at h;exact h)
 have HLT:=Lib.hid (show(l.take (i+1)).length=i+1 by rw[List.length_take];omega)
 generalize l.take (i+1)=T at*
 go_upto_region 2 with(at_builtin;refine wpList_append_sl _ rfl (.tmp 8) (.tmp 12) 53 rfl stR w0.heap.size 73 _ 152 Tryz.underlying53 infoSt rfl (by decide) _ [] rfl (Own.empty _ _ _ (Nat.le_refl _)) _ T rfl ((HF.out.up B0.out).up (ba _ _)) (by rw[HLT.out];simp;omega) (by decide) (by simp[World.size_alloc]) (fun w' _ cs y h=>stR_flat _ _ _ _ h) ?_;intro v1 w2 hown1 hg1 hat1;rw[List.nil_append] at hown1;obtain⟨A1,ac,rfl,_,_,ho⟩:=hown1.form;have K2:=Lib.hid ((K0.out.alloc (.cells #[] 73)).kept hg1 (fun e=>absurd (show some W.heap.size=some w0.heap.size from e) (by have:=K0.out.lt;simp;omega))))
 have hb2:Below W.heap.size W w2:=(bal (o:=.cells #[] 73) B0.out).grown hg1 (by simp[World.size_alloc];have:=B0.out.size;omega) (fun z hz=>by have:some w0.heap.size=some z:=hz;injection this;have:=B0.out.size;omega)
 have B2:=Lib.hid hb2
 have hlt0:=K0.out.lt
 have hle2:w0.heap.size≤w2.heap.size:=Nat.le_trans (ba w0 (.cells #[] 73)).size hg1.size
 have HO:=Lib.hid ho
 have w1:=Lib.hid (show IntKind.i64.wrap ((i:Int)+1)=(i:Int)+1 from IntWalk.i64_in _ (by omega))
 clear hb2 ho hown1 hg1 hat1 K0 B0
 obtain⟨A9,hA9⟩:∃A9,(if lc=i+1 then(some ⟨bl,off,none⟩:Option Addr) else some ⟨bl,off+(i+1)*21,none⟩)=A9:=⟨_,rfl⟩
 have HA9:=Lib.hid hA9
 have HG:=Lib.hid (show Sl stR W (.slice A9 (l.length-(i+1)) (lc-(i+1))) (l.drop (i+1)) by
  rw[←hA9]
  split
  ·rename_i h;exact⟨_,_,by rw[List.length_drop],by rw[List.length_drop];omega,by omega,.inl ⟨by rw[List.length_drop];omega,by omega⟩⟩
  ·exact HL.out.drop (by omega) rfl rfl rfl)
 have HGL:=Lib.hid (show(l.drop (i+1)).length=l.length-(i+1) from List.length_drop)
 clear hA9 HF
 refine wp_region_held (S:=fun X=>Below W.heap.size W X∧BoxN X W.heap.size 73 ds.toArray) (by kernel_rfl) ?_
 have HS0:Below W.heap.size W w2.drew∧BoxN w2.drew W.heap.size 73 ds.toArray:=⟨bdd B2.out,K2.out⟩
 refine wpAnyH_take (i:=0) (v:=.slice A1 T.length ac) rfl (by decide+kernel) (by decide+kernel) (by decide+kernel) (fun _ _ _ h=>h) (.inl ⟨rfl,fun W hS=>by go_simp⟩) HS0 ?_
 refine wpAnyH_take (i:=1) rfl (by decide+kernel) (by decide+kernel) (by decide+kernel) (fun _ _ _ h=>h) (yieldsIf_load_mid rfl 73 (.tmp 5) rfl W.heap.size 0 rfl ds _ (fun X hX=>hX.2.range2) Tryz.underlying73 rfl S2.out) HS0 ?_
 refine wpAnyH_take (i:=4) (v:=.slice (some ⟨bl,off,none⟩) l.length lc) rfl (by decide+kernel) (by decide+kernel) (by decide+kernel) (fun _ _ _ h=>h) (.inl ⟨rfl,fun W hS=>by go_simp⟩) HS0 ?_
 refine wpAnyH_take (i:=5) (v:=.int .i64 (i:Int)) rfl (by decide+kernel) (by decide+kernel) (by decide+kernel) (fun _ _ _ h=>h) (.inl ⟨rfl,fun W hS=>by go_simp⟩) HS0 ?_
 refine wpAnyH_take (i:=6) (v:=.int .i64 ((i:Int)+1)) rfl (by decide+kernel) (by decide+kernel) (by decide+kernel) (fun _ _ _ h=>h) (.inl ⟨rfl,fun W hS=>by go_simp;exact w1.out⟩) HS0 ?_
 refine wpAnyH_take (i:=7) (v:=.slice A9 (l.length-(i+1)) (lc-(i+1))) rfl (by decide+kernel) (by decide+kernel) (by decide+kernel) (fun _ _ _ h=>h) (.inl ⟨rfl,fun W hS=>by go_simp;rw[if_pos ⟨by omega,by omega⟩,HA9.out]⟩) HS0 ?_
 refine wpAnyH_all (rs:=[2]) (by kernel_rfl) (by simp) fun j hj=> ?_
 obtain rfl:j=2:=by simpa using hj
 clear hj
 refine heldOp rfl fun K hK=> ?_
 refine wpList_build_st rfl (.tmp 15) rfl p (by rw[HDS.out];rfl) ?_
 refine wpList_nil ?_
 have hba:=ba w2.drew (.cells (stCells p).toArray 73)
 have hsl:=st_one w2.drew w2.drew.heap.size p rfl HP.out
 have hvv:=(HO.out.up (bdd (Below.refl _ _):Below w2.heap.size w2 w2.drew)).up hba
 have hsz1:w0.heap.size≤(w2.drew.alloc (.cells (stCells p).toArray 73)).heap.size:=Nat.le_trans hle2 hba.size
 refine at_world (fun X=>(Below W.heap.size W X∧BoxN X W.heap.size 73 ds.toArray)∧Sl stR X (.slice (some ⟨w2.drew.heap.size,0,none⟩) 1 1) [p]∧Own stR 73 w0.heap.size X (.slice A1 T.length ac) T∧w0.heap.size≤X.heap.size) ⟨⟨HS0.1.trans (hba.mono HS0.1.size),HS0.2.later hba⟩,hsl,hvv,hsz1⟩ fun x1 hx1=> ?_
 obtain⟨HS1,hsl,hvv,hsx1⟩:=hx1
 refine hK.out _ _ ⟨HS1, ?_⟩
 clear hK K HS0 hba
 refine wpAnyH_all (rs:=[3]) (by kernel_rfl) (by simp) fun j hj=> ?_
 obtain rfl:j=3:=by simpa using hj
 clear hj
 refine heldOp rfl fun K hK=> ?_
 refine wpList_append_sl _ rfl (.tmp 14) (.tmp 16) 53 rfl stR w0.heap.size 73 _ 152 Tryz.underlying53 infoSt rfl (by decide) (.slice A1 T.length ac) T (by go_simp) hvv (.slice (some ⟨w2.drew.heap.size,0,none⟩) 1 1) [p] (by go_simp) hsl (by rw[HLT.out];simp;omega) (by decide) hsx1 (fun w' _ cs y h=>stR_flat _ _ _ _ h) ?_
 intro v1 x2 hown1 hg1 hat1
 refine wpList_nil ?_
 have HS2:Below W.heap.size W x2∧BoxN x2 W.heap.size 73 ds.toArray:=⟨HS1.1.grown hg1 HS1.1.size (fun j hj=>Nat.le_trans (Nat.le_of_lt hlt0) (hvv.lt j hj).1),HS1.2.kept hg1 (fun e=>by have:=(hvv.lt _ e.symm).1;omega)⟩
 have hsx2:=Nat.le_trans hsx1 hg1.size
 refine hK.out _ _ ⟨HS2, ?_⟩
 clear hK K
 refine wpAnyH_all (rs:=[8]) (by kernel_rfl) (by simp) fun j hj=> ?_
 obtain rfl:j=8:=by simpa using hj
 clear hj
 refine heldOp rfl fun K hK=> ?_
 refine wpList_append_sl _ rfl (.tmp 17) (.tmp 21) 53 rfl stR w0.heap.size 73 _ 152 Tryz.underlying53 infoSt rfl (by decide) v1 (T++[p]) (by go_simp) hown1 (.slice A9 (l.length-(i+1)) (lc-(i+1))) (l.drop (i+1)) (by go_simp) (HG.out.up HS2.1) (by rw[HGL.out,List.length_append,HLT.out];simp;omega) (by decide) hsx2 (fun w' _ cs y h=>stR_flat _ _ _ _ h) ?_
 intro v2 x3 hown2 hg2 hat2
 refine wpList_nil ?_
 have HS3:Below W.heap.size W x3∧BoxN x3 W.heap.size 73 ds.toArray:=⟨HS2.1.grown hg2 HS2.1.size (fun j hj=>Nat.le_trans (Nat.le_of_lt hlt0) (hown1.lt j hj).1),HS2.2.kept hg2 (fun e=>by have:=(hown1.lt _ e.symm).1;omega)⟩
 refine hK.out _ _ ⟨HS3, ?_⟩
 clear hK K
 refine wpAnyH_take (i:=9) (v:=v2) rfl (by decide+kernel) (by decide+kernel) (by decide+kernel) (fun _ _ _ h=>h) (.inl ⟨rfl,fun W hS=>by go_simp⟩) HS3 ?_
 refine wpAnyH_done (by kernel_rfl) ?_ _
 rw[List.append_assoc,show[p]++l.drop (i+1)=p::l.drop (i+1) from rfl,HPM.out] at hown2
 clear hvv hsl hg1 hat1 hg2 hat2 HO HA9 HG HGL HLT HDS S2 HP K2 HPM hown1 HS1 HS2
 have HO2:=Lib.hid (hown2.mono (Nat.le_of_lt hlt0))
 have HB3:=Lib.hid HS3.1
 clear hown2 HS3
 go_wp2_with fail
 go_ret
 obtain⟨A5,c5,rfl,_,_,ho5⟩:=HO2.out.form
 refine⟨A5,c5, ?_,ho5,HB3.out⟩
 go_simp
end Go.Proofs.YtlckmjiioohcmaaGreatDoor
