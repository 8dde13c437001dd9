/-
  A state that the document's reading has copied, in memory; walks of groundlingref23.until, Copy. Conditions: as each theorem says.
-/
import Derived.Test.YtlckmjiioohcmaaGreatDoorRdE
import Derived.Test.YtlckmjiioohcmaaGreatDoorRpB
import Derived.Test.YtlckmjiioohcmaaGreatDoorRsx
import Derived.Test.YtlckmjiioohcmaaGreatDoorPlSel
namespace Go.Proofs.YtlckmjiioohcmaaGreatDoor
open Go.RowKit
def vaR:Rep Value where
 size:=1
 is _ cs v:=cs=[v]∧v.oneCell'=true
 len h:=by rw[h.1];rfl
 one h:=by rw[h.1];simp[h.2]
 up _ h:=h
theorem vaR_flat:vaR.flat:=fun _ _ _ _ h=>h
theorem infoVa:(Tryz.prog.info? 85).map (fun i=>(i.zero,i.size,i.bytes))=some (some (.slice none 0 0),vaR.size,24):=by kernel_rfl
theorem va_one (w:World) (g:Nat) (v:Value) (hg:g=w.heap.size) (hv:v.oneCell'=true):Sl vaR (w.alloc (.cells #[v] 85)) (.slice (some ⟨g,0,none⟩) 1 1) [v]:=
 (Own.lit (R:=vaR) (B:=0) (e:=85) (w:=w) (cells:=[v]) (xs:=[v]) hg (Nat.zero_le _) (Rep.many_one (R:=vaR) ⟨rfl,hv⟩) rfl (by simp)).sl
def frM (V:Option Addr) (vc a ac b qc:Nat):MFrm:=⟨V,vc,some ⟨a,0,none⟩,ac,some ⟨b,0,none⟩,qc⟩
structure RMem (w0 W:World) (V:Option Addr) (vc a ac b qc:Nat) (vs:List Value) (s:Md):Prop where
 bw:Below w0.heap.size w0 W
 ve:Sl secR w0 (.slice V s.ve.secs.length vc) s.ve.secs
 ss:Own sxR 81 w0.heap.size W (.slice (some ⟨a,0,none⟩) s.seats.length ac) s.seats
 qb:Own vaR 85 w0.heap.size W (.slice (some ⟨b,0,none⟩) s.qs.length qc) vs
 ql:vs.length=s.qs.length
 qq:∀(k:Nat) (l:List Int),s.qs[k]?=some l→∃A c,vs[k]?=some (.slice A l.length c)∧QuT W (.slice A l.length c) l
 bv:Bd s.ve.shards∧Bd s.ve.ttl∧Bd s.ve.session
 bn:Bd s.now
section
variable {w0 W W':World} {V:Option Addr} {vc a ac b qc:Nat} {vs:List Value} {s:Md}
theorem RMem.up (h:RMem w0 W V vc a ac b qc vs s) (hb:Below W.heap.size W W'):RMem w0 W' V vc a ac b qc vs s:=
 ⟨h.bw.trans (hb.mono h.bw.size),h.ve,h.ss.up hb,h.qb.up hb,h.ql,fun k l hk=>by
  obtain⟨A,c,h1,h2⟩:=h.qq k l hk
  exact⟨A,c,h1,h2.up hb⟩,h.bv,h.bn⟩
theorem RMem.aB (h:RMem w0 W V vc a ac b qc vs s):w0.heap.size≤a∧a<W.heap.size:=⟨h.ss.block.1,h.ss.block.2.1⟩
theorem RMem.bB (h:RMem w0 W V vc a ac b qc vs s):w0.heap.size≤b∧b<W.heap.size:=⟨h.qb.block.1,h.qb.block.2.1⟩
theorem RMem.ab (h:RMem w0 W V vc a ac b qc vs s):a≠b:=(Tag.of_own h.ss).ne (Tag.of_own h.qb) (by decide)
theorem RMem.kept {x:Nat} {t:TypeId} (h:RMem w0 W V vc a ac b qc vs s) (hg:W.grownBy W' (some x)) (ht:Tag W x t) (hx:w0.heap.size≤x) (n1:t≠81) (n2:t≠85) (n3:t≠41):RMem w0 W' V vc a ac b qc vs s:=
 ⟨h.bw.grown hg h.bw.size (fun j hj=>by injection hj with hj;omega),h.ve,
  h.ss.kept hg (fun k hk e=>(Tag.of_own h.ss).ne ht (Ne.symm n1) (by cases e;cases hk;rfl)) (fun cs y h=>sxR_flat _ _ _ _ h),
  h.qb.kept hg (fun k hk e=>(Tag.of_own h.qb).ne ht (Ne.symm n2) (by cases e;cases hk;rfl)) (fun cs y h=>vaR_flat _ _ _ _ h),h.ql,fun k l hk=>by
   obtain⟨A,c,h1,h2⟩:=h.qq k l hk
   exact⟨A,c,h1,h2.kept hg ht n3⟩,h.bv,h.bn⟩
theorem RMem.set (h:RMem w0 W V vc a ac b qc vs s) {k:Nat} (hk:k<s.seats.length) {x:Sx} (hx:SxOk x):
 RMem w0 (putAt W a (k*5) (sxCells x)) V vc a ac b qc vs (setM s k x)∧W.grownBy (putAt W a (k*5) (sxCells x)) (some a):=by
 obtain⟨h1,hg⟩:=h.ss.put hk (x:=x) (cs:=sxCells x) ⟨rfl,hx⟩ (fun _ _ _ _ h=>h)
 have ha:=h.aB.1
 have hg':W.grownBy (putAt W a (k*5) (sxCells x)) (some a):=hg
 have h1':Own sxR 81 w0.heap.size (putAt W a (k*5) (sxCells x)) (.slice (some ⟨a,0,none⟩) s.seats.length ac) (s.seats.set k x):=h1
 refine⟨⟨h.bw.grown hg' h.bw.size (fun j hj=>by injection hj with hj;omega),h.ve,by simpa[setM] using h1',h.qb.kept hg' (fun j hj e=>h.ab (by cases e;cases hj;rfl)) (fun cs y h=>vaR_flat _ _ _ _ h),h.ql,fun k l hk=> ?_,h.bv,h.bn⟩,hg'⟩
 obtain⟨A,c,h3,h4⟩:=h.qq k l hk
 exact⟨A,c,h3,h4.kept hg' (Tag.of_own h.ss) (by decide)⟩
theorem RMem.setQ (h:RMem w0 W V vc a ac b qc vs s) {k:Nat} (hk:k<s.qs.length) {A:Option Addr} {c:Nat} {l:List Int} (hq:QuT W (.slice A l.length c) l):
 RMem w0 (W.setCell ⟨b,k,none⟩ (.slice A l.length c)) V vc a ac b qc (vs.set k (.slice A l.length c)) {s with qs:=s.qs.set k l}∧W.grownBy (W.setCell ⟨b,k,none⟩ (.slice A l.length c)) (some b):=by
 obtain⟨h1,hg⟩:=h.qb.put (k:=k) (by rw[h.ql];exact hk) (x:=.slice A l.length c) (cs:=[.slice A l.length c]) ⟨rfl,rfl⟩ (fun _ _ _ _ h=>h)
 have e1:k*vaR.size=k:=Nat.mul_one k
 rw[e1] at h1 hg
 simp only[putAt] at h1 hg
 have hb:=h.bB.1
 refine⟨⟨h.bw.grown hg h.bw.size (fun j hj=>by injection hj with hj;omega),h.ve,h.ss.kept hg (fun j hj e=>h.ab (by cases e;cases hj;rfl)) (fun cs y h=>sxR_flat _ _ _ _ h),by simpa using h1,by simp[h.ql],fun j l' hj=> ?_,h.bv,h.bn⟩,hg⟩
 rw[List.getElem?_set] at hj
 split at hj
 ·rename_i hkj
  subst hkj
  injection hj with hj
  subst hj
  exact⟨A,c,by rw[List.getElem?_set_self (by rw[h.ql];exact hk)],hq.kept hg (Tag.of_own h.qb) (by decide)⟩
 ·rename_i hkj
  obtain⟨A',c',h3,h4⟩:=h.qq j l' hj
  exact⟨A',c',by rw[List.getElem?_set_ne hkj];exact h3,h4.kept hg (Tag.of_own h.qb) (by decide)⟩
theorem RMem.seat (h:RMem w0 W V vc a ac b qc vs s) {i:Nat} (hi:i<s.seats.length):
 W.cell? ⟨a,i*5,none⟩=some (.int .i64 s.seats[i].state)∧W.cell? ⟨a,i*5+1,none⟩=some (.int .u32 s.seats[i].owner)∧W.cell? ⟨a,i*5+2,none⟩=some (.int .i64 s.seats[i].till)∧W.cell? ⟨a,i*5+3,none⟩=some (.int .u64 s.seats[i].serial)∧W.cell? ⟨a,i*5+4,none⟩=some (.int .u64 s.seats[i].epoch)∧(∀j,W.frozen? ⟨a,j,none⟩=false)∧SxOk s.seats[i]:=by
 obtain⟨ds,⟨rfl,hx⟩,hd,hf⟩:=h.ss.cell_ hi
 exact⟨hd 0 _ rfl,hd 1 _ rfl,hd 2 _ rfl,hd 3 _ rfl,hd 4 _ rfl,hf,hx⟩
theorem RMem.list (h:RMem w0 W V vc a ac b qc vs s) {k:Nat} (hk:k<s.qs.length):
 ∃A c,W.cell? ⟨b,k,none⟩=some (.slice A s.qs[k].length c)∧QuT W (.slice A s.qs[k].length c) s.qs[k]∧∀j,W.frozen? ⟨b,j,none⟩=false:=by
 obtain⟨A,c,h1,h2⟩:=h.qq k _ (List.getElem?_eq_getElem hk)
 have hk':k<vs.length:=by rw[h.ql];exact hk
 obtain⟨ds,⟨rfl,_⟩,hd,hf⟩:=h.qb.cell_ hk'
 have h3:vs[k]=.slice A s.qs[k].length c:=by
  rw[List.getElem?_eq_getElem hk'] at h1
  injection h1
 have h4:=hd 0 _ rfl
 simp only[vaR,Nat.mul_one,Nat.add_zero,h3] at h4
 exact⟨A,c,h4,h2,hf⟩
theorem RMem.isMd (h:RMem w0 W V vc a ac b qc vs s):IsMd W (frM V vc a ac b qc) s:=by
 refine⟨h.ve.up h.bw,h.ss.sl, ?_,h.bv.1,h.bv.2.1,h.bv.2.2,h.bn⟩
 obtain⟨A,c,he,h1,h2,h3⟩:=h.qb.sl
 obtain⟨rfl,_,rfl⟩:A=some ⟨b,0,none⟩∧True∧c=qc:=by
  injection he with e1 e2 e3
  exact⟨e1.symm,trivial,e3.symm⟩
 refine⟨_,_,rfl,by rw[←h.ql];exact h1,h2, ?_⟩
 rcases h3 with⟨h3,h4⟩|⟨b',off,hA,hlt,hcells⟩
 ·exact .inl ⟨by rw[←h.ql];exact h3,h4⟩
 ·injection hA with hA
  injection hA with e1 e2
  subst e1 e2
  refine .inr ⟨b,0,rfl,hlt,fun i l hi=> ?_⟩
  obtain⟨A',c',h5,h6⟩:=h.qq i l hi
  obtain⟨cs,⟨rfl,_⟩,h7⟩:=hcells i _ h5
  exact⟨_,⟨A',c',rfl,h6.1⟩,h7⟩
end
set_option maxHeartbeats 2000000 in
theorem rUntil_any (F:MFrm) (s:Md) (more:Int) (w:World) (hn:Bd s.now) (hm:Bd more):
 Calls Tryz.prog 37 #[mdV F s,.int .i64 more] w fun e w'=>e=.returned (.int .i64 (untilM s more))∧Below w.heap.size w w':=by
 have C:=Lib.hid (fun X=>rAdd_any s.now more X hn hm)
 have hM:=Lib.hid (show untilM s more=(addT s.now more).1 from rfl)
 generalize untilM s more=M at hM⊢
 generalize addT s.now more=R at C hM
 obtain⟨R1,R2⟩:=R
 simp only at C hM
 unfold mdV
 clear hn hm
 go_enter Tryz.func37,Tryz.ntmps37
 go_upto_region 1 with fail
 obtain⟨q,hq⟩:∃q,w.heap.size=q:=⟨_,rfl⟩
 rw[hq]
 refine at_world (fun X=>Below w.heap.size w X∧BoxN X q 31 (mdCells F s).toArray) ⟨ba _ _,hq▸BoxN.new w _ _⟩ fun w0 hw0=> ?_
 have B0:=Lib.hid hw0.1
 have c4:=hw0.2.cell 4 (.int .i64 s.now) rfl
 have zq:=hw0.2.lt
 clear hw0
 go_wp2_with fail
 refine(C.out _).mono ?_
 rintro e w1 ⟨rfl,hb⟩
 have B1:=Lib.hid (B0.out.trans (hb.mono B0.out.size))
 clear hb c4 zq B0 C
 go_wp2_with fail
 go_ret
 exact⟨by rw[hM.out];rfl,by first|exact B1.out|(rw[←hq];exact B1.out)⟩
theorem QuT.kept_own {α:Type} {R:Rep α} {e:TypeId} {B:Nat} {W W':World} {u v:Value} {xs:List α} {l:List Int} (h:QuT W v l) (ho:Own R e B W u xs) (hg:W.grownBy W' u.ownBlock) (hne:e≠41):QuT W' v l:=by
 have ho':=ho
 obtain⟨cells,hr,_⟩:=ho'
 rcases hr.2 with⟨rfl,_⟩|⟨g,cap,cur,rfl,_⟩
 ·exact h.up (below_grown hg (Nat.le_refl _) (fun k hk=>by cases hk))
 ·exact h.kept hg (Tag.of_own ho) hne
def RCopyPost (w:World) (V:Option Addr) (vc:Nat) (s:Md) (e:Ending) (w':World):Prop:=
 ∃a ac b qc vs,e=.returned (mdV (frM V vc a ac b qc) s)∧RMem w w' V vc a ac b qc vs s
theorem QuT.own_up {B:Nat} {W W':World} {v:Value} {l:List Int} (h:Own u32R 41 B W v l) (hb:Below W.heap.size W W'):QuT W' v l:=(QuT.of_own h).up hb
set_option maxHeartbeats 8000000 in
set_option maxRecDepth 20000 in
theorem rCopy_any (F:MFrm) (s:Md) (w:World) (hs:IsMd w F s) (hn:s.qs.length≤1000∧(∀l,l∈s.qs→l.length≤1000)∧s.seats.length≤1000000) (h1:s.seats≠[]) (h2:s.qs≠[]):
 Calls Tryz.prog 36 #[mdV F s] w (RCopyPost w F.V F.vc s):=by
 have HS:=Lib.hid hs
 have HN:=Lib.hid hn
 have hq1:=hn.1
 have hs1:=hn.2.2
 have hp1:0<s.seats.length:=List.length_pos_iff.2 h1
 have hp2:0<s.qs.length:=List.length_pos_iff.2 h2
 clear hn hs h1 h2
 unfold mdV
 go_enter Tryz.func36,Tryz.ntmps36
 go_upto_region 1 with fail
 obtain⟨q,hq⟩:∃q,w.heap.size=q:=⟨_,rfl⟩
 rw[hq]
 refine at_world (fun X=>Below w.heap.size w X∧BoxN X q 31 (mdCells F s).toArray∧BoxN X (q+1) 31 #[.int .i64 0,.int .i64 0,.int .i64 0,.slice none 0 0,.int .i64 0,.slice none 0 0,.slice none 0 0]) (two_boxes hq _ _ _ _) fun w1 hw1=> ?_
 have B1:=Lib.hid hw1.1
 have K1:=Lib.hid hw1.2.1
 have J1:=Lib.hid hw1.2.2
 clear hw1
 have c5:=K1.out.cell 5 (.slice F.A s.seats.length F.ac) rfl
 have zq:=K1.out.lt
 have hle1:=B1.out.size
 go_upto_region 2 with(at_builtin;refine wpList_append_sl _ rfl (.tmp 5) (.tmp 7) 28 rfl sxR w.heap.size 81 _ 40 Tryz.underlying28 infoX5 rfl (by decide) _ [] rfl (Own.empty _ _ _ B1.out.size) _ s.seats rfl ((HS.out.seats.up B1.out).up (ba _ _)) (by simp;omega) (by decide) (by simp[World.size_alloc];omega) (fun w' _ cs y h=>sxR_flat _ _ _ _ h) ?_;intro v1 w2 hown1 hg1 hat1;rw[List.nil_append] at hown1;obtain⟨A1,ac,rfl,_,_,ho⟩:=hown1.form;have K2:=Lib.hid ((K1.out.alloc (.cells #[] 81)).kept hg1 (fun e=>absurd (show some q=some w1.heap.size from e) (by simp;omega)));have J2:=Lib.hid ((J1.out.alloc (.cells #[] 81)).kept hg1 (fun e=>absurd (show some (q+1)=some w1.heap.size from e) (by have:=J1.out.lt;simp;omega)));have d5:=K2.out.cell 5 (.slice F.A s.seats.length F.ac) rfl;have f5:=K2.out.frozen 5;have z2:=K2.out.lt;clear c5)
 have hb2:Below w.heap.size w w2:=(bal (o:=.cells #[] 81) B1.out).grown hg1 (by simp[World.size_alloc];omega) (fun z hz=>by have:some w1.heap.size=some z:=hz;injection this;omega)
 have hgk:=grownBy_set w2 q 5 (.slice A1 s.seats.length ac)
 have hk3:BoxN (w2.setCell ⟨q,5,none⟩ (.slice A1 s.seats.length ac)) q 31 #[.int .i64 s.ve.shards,.int .i64 s.ve.ttl,.int .i64 s.ve.session,.slice F.V s.ve.secs.length F.vc,.int .i64 s.now,.slice A1 s.seats.length ac,.slice F.Q s.qs.length F.qc]:=K2.out.set 5 _
 refine at_world (fun X=>Below w.heap.size w X∧BoxN X q 31 #[.int .i64 s.ve.shards,.int .i64 s.ve.ttl,.int .i64 s.ve.session,.slice F.V s.ve.secs.length F.vc,.int .i64 s.now,.slice A1 s.seats.length ac,.slice F.Q s.qs.length F.qc]∧BoxN X (q+1) 31 #[.int .i64 0,.int .i64 0,.int .i64 0,.slice none 0 0,.int .i64 0,.slice none 0 0,.slice none 0 0]∧Own sxR 81 w.heap.size X (.slice A1 s.seats.length ac) s.seats) ⟨hb2.grown hgk hb2.size (fun z hz=>by injection hz;omega),hk3,J2.out.kept hgk (by simp),ho.kept_box hgk K2.out (by decide) sxR_flat⟩ fun w3 hw3=> ?_
 have H3:=Lib.hid hw3
 clear hw3 hk3 hgk hb2 ho hown1 hg1 hat1 K2 J2 d5 f5 z2 K1 J1 B1 zq hle1
 go_wp2_with fail
 go_loopw [4,3] (fun iv v wr=> ∃(k:Nat) (vs:List Value),iv=.int .i64 (k:Int)∧k≤s.qs.length∧Hid (Below w.heap.size w wr∧BoxN wr q 31 #[.int .i64 s.ve.shards,.int .i64 s.ve.ttl,.int .i64 s.ve.session,.slice F.V s.ve.secs.length F.vc,.int .i64 s.now,.slice A1 s.seats.length ac,.slice F.Q s.qs.length F.qc]∧BoxN wr (q+1) 31 #[.int .i64 0,.int .i64 0,.int .i64 0,.slice none 0 0,.int .i64 0,.slice none 0 0,.slice none 0 0]∧Own sxR 81 w.heap.size wr (.slice A1 s.seats.length ac) s.seats)∧Hid (Own vaR 85 w.heap.size wr v vs∧vs.length=k∧∀(j:Nat) (l:List Int),j<k→s.qs[j]?=some l→∃A c,vs[j]?=some (.slice A l.length c)∧QuT wr (.slice A l.length c) l)) (fun iv _ _=>s.qs.length-(intOf iv).toNat)
 case atStart=>exact⟨0,[],rfl,Nat.zero_le _,H3,Lib.hid ⟨Own.nil _ _ _ _,rfl,fun j l h=>by omega⟩⟩
 case round=>
  obtain⟨k,vs,rfl,hk,HR,HV⟩:=hrel
  rename World=>wr
  clear H3
  have c6:=HR.out.2.1.cell 6 (.slice F.Q s.qs.length F.qc) rfl
  have zq:=HR.out.2.1.lt
  have hk0:(0:Int)≤(k:Int):=by omega
  by_cases hlt:k<s.qs.length
  case neg=>
   obtain rfl:k=s.qs.length:=by omega
   have t0:decide ((s.qs.length:Int)<(s.qs.length:Int))=false:=by simp
   obtain⟨hv1,hv2,hv3⟩:=HV.out
   obtain⟨hr1,hr2,hr3,hr4⟩:=HR.out
   have HQQ:=Lib.hid hv3
   have f6:=hr2.frozen 6
   clear HV HR hv3
   obtain⟨A3,qc,rfl,hc1,hc2,hv4⟩:=hv1.form
   obtain⟨b,cs9,rfl,h91,h92,h93,h94,h95⟩:=hv4.at_ (k:=0) (by rw[hv2];exact hp2)
   obtain⟨a,cs8,rfl,h81,h82,h83,h84,h85⟩:=hr4.at_ (k:=0) hp1
   rw[hv2] at hv4
   have HV2:=Lib.hid hv2
   have HV4:=Lib.hid hv4
   have HK4:=Lib.hid hr2
   have HJ4:=Lib.hid hr3
   have HO4:=Lib.hid hr4
   have HB4:=Lib.hid hr1
   rw[hv2]
   clear h93 h94 h95 h83 h84 h85 hv1 hv2 hv4 hr1 hr2 hr3 hr4 hc1 hc2 h91 h92 h81 h82
   go_upto_region 8 with fail
   have hgk:=grownBy_set wr q 6 (.slice (some ⟨b,0,none⟩) s.qs.length qc)
   have hk4:BoxN (wr.setCell ⟨q,6,none⟩ (.slice (some ⟨b,0,none⟩) s.qs.length qc)) q 31 (mdCells (frM F.V F.vc a ac b qc) s).toArray:=HK4.out.set 6 _
   have hq4:∀(j:Nat) (l:List Int),s.qs[j]?=some l→∃A c,vs[j]?=some (.slice A l.length c)∧QuT (wr.setCell ⟨q,6,none⟩ (.slice (some ⟨b,0,none⟩) s.qs.length qc)) (.slice A l.length c) l:=fun j l hl=>by
    obtain⟨A,c,h3,h4⟩:=HQQ.out j l (List.getElem?_eq_some_iff.1 hl).1 hl
    exact⟨A,c,h3,h4.kept hgk (Tag.of_box HK4.out) (by decide)⟩
   have hb4:=HB4.out.grown hgk HB4.out.size (fun z hz=>by injection hz;omega)
   refine at_world (fun X=>RMem w X F.V F.vc a ac b qc vs s∧BoxN X q 31 (mdCells (frM F.V F.vc a ac b qc) s).toArray∧BoxN X (q+1) 31 #[.int .i64 0,.int .i64 0,.int .i64 0,.slice none 0 0,.int .i64 0,.slice none 0 0,.slice none 0 0]) ⟨⟨hb4,HS.out.secs,HO4.out.kept_box hgk HK4.out (by decide) sxR_flat,HV4.out.kept_box hgk HK4.out (by decide) vaR_flat,HV2.out,hq4,⟨HS.out.shards,HS.out.ttl,HS.out.session⟩,HS.out.now⟩,hk4,HJ4.out.kept hgk (by simp)⟩ fun X hX=> ?_
   have X1:=Lib.hid hX.1
   have X2:=Lib.hid hX.2.1
   have X3:=Lib.hid hX.2.2
   clear hX hb4 hq4 hk4 hgk HK4 HJ4 HO4 HB4 HV2 HV4 HQQ c6 zq f6
   obtain⟨ms,hms⟩:∃ms:List Value,ms=mdCells (frM F.V F.vc a ac b qc) s:=⟨_,rfl⟩
   rw[←hms] at X2
   have HMS:=Lib.hid hms
   have S1:=md_s hms
   have S1A:=md_S hms
   have L1:=md_l hms
   have O1:=md_o hms
   clear hms
   go_wp2_with (first|refine wpList_load_mid rfl 31 (.tmp 1) rfl q 0 rfl ms _ X2.out.range2 Tryz.underlying31 rfl S1.out ?_|refine wpList_store_row rfl 31 (.tmp 2) (.tmp 29) rfl (q+1) ms.toArray rfl rfl 31 _ X3.out S1A.out L1.out.symm O1.out ?_)
   have hrow:=grownBy_setRow X3.out ms.toArray
   refine at_world (fun Y=>RMem w Y F.V F.vc a ac b qc vs s∧BoxN Y (q+1) 31 ms.toArray) ⟨X1.out.kept hrow.1 (Tag.of_box X3.out) (by omega) (by decide) (by decide) (by decide),hrow.2⟩ fun Y hY=> ?_
   clear hrow
   have k3:=hY.2
   have hR:=hY.1
   clear hY
   rw[HMS.out] at k3
   have gg:=k3.x7
   clear k3
   exact bodyPost_ret (v:=mdV (frM F.V F.vc a ac b qc) s) (by simp[results,Tryz.results36,go_sem,mdV,gg]) rfl (show RCopyPost w F.V F.vc s _ _ from⟨a,ac,b,qc,vs,rfl,hR⟩)
  have t0:decide ((k:Int)<(s.qs.length:Int))=true:=decide_eq_true (by omega)
  have hk1:(k:Int)<(s.qs.length:Int):=by omega
  obtain⟨bQ,oQ,A0,ac0,hQ,hbQ,e0,hql⟩:=(HS.out.qs.up HR.out.1).atQ hlt
  have HQL:=Lib.hid hql
  have hlen:=HN.out.2.1 _ (List.getElem_mem hlt)
  generalize hl:s.qs[k]=l at*
  have HL:=Lib.hid hl
  rw[hQ] at c6
  clear hl hql hQ
  have hszr:=HR.out.1.size
  go_wp2_with (first|(at_builtin;refine wpList_append_sl _ rfl (.tmp 18) (.tmp 23) 85 rfl u32R wr.heap.size 41 _ 4 Tryz.underlying85 infoU rfl (by decide) _ [] rfl (Own.empty _ _ _ (Nat.le_refl _)) _ l rfl (HQL.out.up (ba _ _)) (by simp;omega) (by decide) (by simp[World.size_alloc]) (fun w' _ cs y h=>u32R_flat _ _ _ _ h) ?_;intro v1 w5 hown1 hg1 hat1;rw[List.nil_append] at hown1;obtain⟨A5,c5,rfl,_,_,ho5⟩:=hown1.form;have hb5:=Lib.hid (show Below wr.heap.size wr w5 from(ba wr (.cells #[] 41)).grown hg1 (by simp[World.size_alloc]) (fun z hz=>by have:some wr.heap.size=some z:=hz;injection this;omega));have hsz5:=hb5.out.size)|(at_builtin;refine wpList_append_sl _ rfl (.tmp 17) (.tmp 25) 29 rfl vaR w.heap.size 85 _ 24 Tryz.underlying29 infoVa rfl (by decide) _ vs rfl ((HV.out.1.up hb5.out).up (ba _ _)) _ [.slice A5 l.length c5] rfl (va_one _ _ _ rfl rfl) (by have:=HV.out.2.1;simp;omega) (by decide) (by simp[World.size_alloc];omega) (fun w' _ cs y h=>vaR_flat _ _ _ _ h) ?_;intro v2 w6 hown2 hg2 hat2))
  have hv6:=(HV.out.1.up hb5.out).up (ba w5 (.cells #[.slice A5 l.length c5] 85))
  have hg6:(w5.alloc (.cells #[.slice A5 l.length c5] 85)).grownBy w6 u3.ownBlock:=hg2
  have hk6:=(HR.out.2.1.later hb5.out).alloc (.cells #[.slice A5 l.length c5] 85)
  have hj6:=(HR.out.2.2.1.later hb5.out).alloc (.cells #[.slice A5 l.length c5] 85)
  have ho6:=(HR.out.2.2.2.up hb5.out).up (ba w5 (.cells #[.slice A5 l.length c5] 85))
  have hq6:QuT (w5.alloc (.cells #[.slice A5 l.length c5] 85)) (.slice A5 l.length c5) l:=QuT.own_up ho5 (ba _ _)
  refine⟨⟨k+1,vs++[.slice A5 l.length c5],by go_num,by omega,Lib.hid ⟨(bal (o:=.cells #[.slice A5 l.length c5] 85) (HR.out.1.trans (hb5.out.mono hszr))).grown hg6 (by simp[World.size_alloc];omega) (fun z hz=>(HV.out.1.lt z hz).1),hk6.kept hg6 (fun e=>hv6.not_box hk6 (by decide) e.symm),hj6.kept hg6 (fun e=>hv6.not_box hj6 (by decide) e.symm),ho6.kept hg6 (fun k hk e=>ho6.apart hv6 (by decide) k hk e) (fun cs y h=>sxR_flat _ _ _ _ h)⟩,Lib.hid ⟨hown2,by rw[List.length_append,HV.out.2.1];rfl,fun j l' hj hl'=> ?_⟩⟩,by simp[intOf];omega⟩
  by_cases hjk:j<k
  ·obtain⟨A',c',h3,h4⟩:=HV.out.2.2 j l' hjk hl'
   exact⟨A',c',by rw[List.getElem?_append_left (by rw[HV.out.2.1];exact hjk)];exact h3,((h4.up hb5.out).up (ba _ _)).kept_own hv6 hg6 (by decide)⟩
  ·obtain rfl:j=k:=by omega
   rw[List.getElem?_eq_getElem hlt,HL.out] at hl'
   injection hl' with hl'
   subst hl'
   exact⟨A5,c5,by rw[List.getElem?_append_right (by rw[HV.out.2.1];exact Nat.le_refl _),HV.out.2.1,Nat.sub_self];rfl,hq6.kept_own hv6 hg6 (by decide)⟩
end Go.Proofs.YtlckmjiioohcmaaGreatDoor
