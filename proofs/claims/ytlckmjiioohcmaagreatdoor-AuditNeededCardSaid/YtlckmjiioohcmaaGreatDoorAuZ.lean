/-
  Walk of audit.Good. Conditions: as each theorem says.
  Walk of audit.New. Conditions: as each theorem says.
  Plain laws of the audit reader: what is known stays as it must be. Conditions: as each theorem says.
  No statement is proved here: a struct of many cells is loaded whole, and laid whole into a new block: its cells under one name. Conditions: none.
  Walk of audit.Check. Conditions: as each theorem says.
-/
import Derived.Test.YtlckmjiioohcmaaGreatDoorAuO
import Derived.Test.YtlckmjiioohcmaaGreatDoorAuP
import Derived.BigRegion
import Derived.Test.YtlckmjiioohcmaaGreatDoorAuV
import Derived.Test.YtlckmjiioohcmaaGreatDoorLib
import Derived.Deep.MidRow
import Derived.Laws.Tables
import Derived.Laws.CopyOwn
import Derived.Laws.Rows
namespace Go.Proofs.YtlckmjiioohcmaaGreatDoor
open Go.RowKit
def auV (F:Frm) (s:Au):Value:=.agg #[.int .i64 s.ve.shards,.int .i64 s.ve.ttl,.int .i64 s.ve.session,.slice F.V s.ve.secs.length F.vc,.int .i64 s.now,.slice F.A s.seats.length F.ac,.slice F.B s.waiting.length F.bc]
structure IsAu (W:World) (F:Frm) (s:Au):Prop where
 vs:Sl secR W (.slice F.V s.ve.secs.length F.vc) s.ve.secs
 ss:Sl seR W (.slice F.A s.seats.length F.ac) s.seats
 ws:Sl intR W (.slice F.B s.waiting.length F.bc) s.waiting
 bv:Bd s.ve.shards∧Bd s.ve.ttl∧Bd s.ve.session
 bn:Bd s.now
theorem IsAu.up {W W':World} {F:Frm} {s:Au} (h:IsAu W F s) (hb:Below W.heap.size W W'):IsAu W' F s:=⟨h.vs.up hb,h.ss.up hb,h.ws.up hb,h.bv,h.bn⟩
theorem IsAu.venue {W:World} {F:Frm} {s:Au} (h:IsAu W F s):IsVe W (.agg #[.int .i64 s.ve.shards,.int .i64 s.ve.ttl,.int .i64 s.ve.session,.slice F.V s.ve.secs.length F.vc]) s.ve:=
 ⟨F.V,F.vc,rfl,h.vs,h.bv.1,h.bv.2.1,h.bv.2.2⟩
end Go.Proofs.YtlckmjiioohcmaaGreatDoor
namespace Go.Proofs.YtlckmjiioohcmaaGreatDoor
open Go.RowKit
def zeroSe:Se:=⟨false,false,0,0,0,0⟩
def zeroAu:Au:=⟨⟨0,0,0,[]⟩,0,[],[]⟩
def newA (x:Ve):Au×Int:=if(seatsV x).2≠0 then(zeroAu,(seatsV x).2) else(⟨x,0,List.replicate (seatsV x).1.toNat zeroSe,List.replicate x.secs.length 0⟩,0)
theorem infoJ:(Tryz.prog.info? 3).map (fun i=>(i.zero,i.size,i.bytes))=some (some (.int .i64 0),1,8):=by kernel_rfl
theorem infoE:(Tryz.prog.info? 107).map (fun i=>(i.zero,i.size,i.bytes))=some (some (.agg #[.bool false,.bool false,.int .u32 0,.int .i64 0,.int .u64 0,.int .u64 0]),6,32):=by kernel_rfl
theorem made_ints:∀k:Nat,(madeCells #[Value.int .i64 0] k).toList=(List.replicate k (0:Int)).map (Value.int .i64):=by
 intro k
 apply List.ext_getElem?
 intro i
 by_cases h:i<k<;>simp[madeCells,h,Nat.mod_one]
theorem mk_ints (k:Nat) (hk:k≤1000000) (w:World):(Instr.makeSlice 65 (.int .i64 (k:Int)) (.int .i64 (k:Int))).run Tryz.prog w=.ok (.slice (some ⟨w.heap.size,0,none⟩) k k) (w.alloc (.cells (madeCells #[.int .i64 0] k) 3)):=by
 obtain⟨i,hi,hz,hs,hb⟩:=info_parts infoJ
 have h:=run_make (P:=Tryz.prog) w 65 3 i _ Tryz.underlying65 hi hz .i64 .i64 k k (by omega) (Int.le_refl _) (by rw[hb];omega) (by omega)
 rw[h,hs]
 simp only[Int.toNat_natCast,Nat.mul_one]
 rfl
def zeroC:Array Value:=#[.bool false,.bool false,.int .u32 0,.int .i64 0,.int .u64 0,.int .u64 0]
theorem mk_seatsA (k:Nat) (hk:k≤1000000) (w:World):(Instr.makeSlice 64 (.int .i64 (k:Int)) (.int .i64 (k:Int))).run Tryz.prog w=.ok (.slice (some ⟨w.heap.size,0,none⟩) k k) (w.alloc (.cells (madeCells zeroC (k*6)) 107)):=by
 obtain⟨i,hi,hz,hs,hb⟩:=info_parts infoE
 have h:=run_make (P:=Tryz.prog) w 64 107 i _ Tryz.underlying64 hi hz .i64 .i64 k k (by omega) (Int.le_refl _) (by rw[hb];omega) (by omega)
 rw[h,hs]
 simp only[Int.toNat_natCast]
 rfl
theorem many_zerosA (w:World):∀k:Nat,seR.many w ((List.range (k*6)).map fun i=>zeroC[i%6]!) (List.replicate k zeroSe)
 |0=>by simp[Rep.many]
 |k+1=>by
  refine⟨zeroC.toList,_, ?_,⟨rfl, ?_⟩,many_zerosA w k⟩
  ·rw[show(k+1)*6=6+k*6 by omega,List.range_add,List.map_append,List.map_map]
   congr 1
   apply List.map_congr_left
   intro i _
   simp
  ·simp[zeroSe,U32,U64,Bd]
theorem made_seatsA (n:Nat):(madeCells zeroC n).toList=(List.range n).map fun i=>zeroC[i%6]!:=by
 simp only[madeCells,Array.toList_map,Array.toList_range]
 rfl
theorem own_seatsA (w:World) (k:Nat) (hk:k≤1000000):Own seR 107 w.heap.size (w.alloc (.cells (madeCells zeroC (k*6)) 107)) (.slice (some ⟨w.heap.size,0,none⟩) k k) (List.replicate k zeroSe):=by
 have h:=Own.lit (R:=seR) (e:=107) (B:=w.heap.size) (g:=w.heap.size) (n:=k) (w:=w) (cells:=(madeCells zeroC (k*6)).toList) (xs:=List.replicate k zeroSe) rfl (Nat.le_refl _)
  (by rw[made_seatsA];exact many_zerosA _ k) (by simp) hk
 simpa using h
theorem own_zerosA (w:World) (k:Nat) (hk:k≤1000000):Own intR 3 w.heap.size (w.alloc (.cells (madeCells #[.int .i64 0] k) 3)) (.slice (some ⟨w.heap.size,0,none⟩) k k) (List.replicate k 0):=by
 have h:=Own.lit (R:=intR) (e:=3) (B:=w.heap.size) (g:=w.heap.size) (n:=k) (w:=w) (cells:=(madeCells #[Value.int .i64 0] k).toList) (xs:=List.replicate k 0) rfl (Nat.le_refl _)
  (by rw[made_ints];exact many_ints (fun x hx=>by simp at hx;simp[hx,Bd])) (by simp) hk
 simpa using h
theorem new_end1A {W w1:World} {g k:Nat} {V:Option Addr} {vc:Nat} {x:Ve} {ds:List Value} (hl:ds.length=7) (hb:Below W.heap.size W w1) (hg:W.heap.size≤g) (hc:Cells w1 g ds) (hk:k≤1000000) (hs:x.secs.length≤1000000):
 Below W.heap.size W (((putAt w1 g 0 [.int .i64 x.shards,.int .i64 x.ttl,.int .i64 x.session,.slice V x.secs.length vc,.int .i64 0,.slice (some ⟨w1.heap.size,0,none⟩) k k,.slice (some ⟨(w1.heap.size+1),0,none⟩) x.secs.length x.secs.length]).alloc (.cells (madeCells zeroC (k*6)) 107)).alloc (.cells (madeCells #[.int .i64 0] x.secs.length) 3)).drew∧Cells (((putAt w1 g 0 [.int .i64 x.shards,.int .i64 x.ttl,.int .i64 x.session,.slice V x.secs.length vc,.int .i64 0,.slice (some ⟨w1.heap.size,0,none⟩) k k,.slice (some ⟨(w1.heap.size+1),0,none⟩) x.secs.length x.secs.length]).alloc (.cells (madeCells zeroC (k*6)) 107)).alloc (.cells (madeCells #[.int .i64 0] x.secs.length) 3)).drew g [.int .i64 x.shards,.int .i64 x.ttl,.int .i64 x.session,.slice V x.secs.length vc,.int .i64 0,.slice (some ⟨w1.heap.size,0,none⟩) k k,.slice (some ⟨(w1.heap.size+1),0,none⟩) x.secs.length x.secs.length]∧Own seR 107 W.heap.size (((putAt w1 g 0 [.int .i64 x.shards,.int .i64 x.ttl,.int .i64 x.session,.slice V x.secs.length vc,.int .i64 0,.slice (some ⟨w1.heap.size,0,none⟩) k k,.slice (some ⟨(w1.heap.size+1),0,none⟩) x.secs.length x.secs.length]).alloc (.cells (madeCells zeroC (k*6)) 107)).alloc (.cells (madeCells #[.int .i64 0] x.secs.length) 3)).drew (.slice (some ⟨w1.heap.size,0,none⟩) k k) (List.replicate k zeroSe)∧Own intR 3 W.heap.size (((putAt w1 g 0 [.int .i64 x.shards,.int .i64 x.ttl,.int .i64 x.session,.slice V x.secs.length vc,.int .i64 0,.slice (some ⟨w1.heap.size,0,none⟩) k k,.slice (some ⟨(w1.heap.size+1),0,none⟩) x.secs.length x.secs.length]).alloc (.cells (madeCells zeroC (k*6)) 107)).alloc (.cells (madeCells #[.int .i64 0] x.secs.length) 3)).drew (.slice (some ⟨(w1.heap.size+1),0,none⟩) x.secs.length x.secs.length) (List.replicate x.secs.length 0):=by
 obtain⟨k3,hgr⟩:=hc.put [.int .i64 x.shards,.int .i64 x.ttl,.int .i64 x.session,.slice V x.secs.length vc,.int .i64 0,.slice (some ⟨w1.heap.size,0,none⟩) k k,.slice (some ⟨(w1.heap.size+1),0,none⟩) x.secs.length x.secs.length] (by rw[hl];rfl)
 have hz:(putAt w1 g 0 [.int .i64 x.shards,.int .i64 x.ttl,.int .i64 x.session,.slice V x.secs.length vc,.int .i64 0,.slice (some ⟨w1.heap.size,0,none⟩) k k,.slice (some ⟨(w1.heap.size+1),0,none⟩) x.secs.length x.secs.length]).heap.size=w1.heap.size:=by simp[putAt]
 have hb2:Below W.heap.size W (putAt w1 g 0 [.int .i64 x.shards,.int .i64 x.ttl,.int .i64 x.session,.slice V x.secs.length vc,.int .i64 0,.slice (some ⟨w1.heap.size,0,none⟩) k k,.slice (some ⟨(w1.heap.size+1),0,none⟩) x.secs.length x.secs.length]):=hb.grown hgr hb.size (fun j hj=>by injection hj with hj;omega)
 generalize putAt w1 g 0 [.int .i64 x.shards,.int .i64 x.ttl,.int .i64 x.session,.slice V x.secs.length vc,.int .i64 0,.slice (some ⟨w1.heap.size,0,none⟩) k k,.slice (some ⟨(w1.heap.size+1),0,none⟩) x.secs.length x.secs.length]=w2 at k3 hz hb2⊢
 refine⟨(bal (bal hb2)).drew,((k3.alloc _).alloc _).drew, ?_, ?_⟩
 ·have h:=(own_seatsA w2 k hk).mono hb2.size
  rw[hz] at h
  exact(h.up (ba _ _)).up (bdd (Below.refl _ _))
 ·have h:=(own_zerosA (w2.alloc (.cells (madeCells zeroC (k*6)) 107)) x.secs.length hs).mono (B':=W.heap.size) (by have:=hb2.size;simp;omega)
  rw[World.size_alloc,hz] at h
  exact h.up (bdd (Below.refl _ _))
theorem new_end2A {W w1:World} {g k:Nat} {V:Option Addr} {vc:Nat} {x:Ve} {ds:List Value} (hl:ds.length=7) (hb:Below W.heap.size W w1) (hg:W.heap.size≤g) (hc:Cells w1 g ds) (hk:k≤1000000) (hs:x.secs.length≤1000000):
 Below W.heap.size W (((putAt w1 g 0 [.int .i64 x.shards,.int .i64 x.ttl,.int .i64 x.session,.slice V x.secs.length vc,.int .i64 0,.slice (some ⟨(w1.heap.size+1),0,none⟩) k k,.slice (some ⟨w1.heap.size,0,none⟩) x.secs.length x.secs.length]).alloc (.cells (madeCells #[.int .i64 0] x.secs.length) 3)).alloc (.cells (madeCells zeroC (k*6)) 107)).drew∧Cells (((putAt w1 g 0 [.int .i64 x.shards,.int .i64 x.ttl,.int .i64 x.session,.slice V x.secs.length vc,.int .i64 0,.slice (some ⟨(w1.heap.size+1),0,none⟩) k k,.slice (some ⟨w1.heap.size,0,none⟩) x.secs.length x.secs.length]).alloc (.cells (madeCells #[.int .i64 0] x.secs.length) 3)).alloc (.cells (madeCells zeroC (k*6)) 107)).drew g [.int .i64 x.shards,.int .i64 x.ttl,.int .i64 x.session,.slice V x.secs.length vc,.int .i64 0,.slice (some ⟨(w1.heap.size+1),0,none⟩) k k,.slice (some ⟨w1.heap.size,0,none⟩) x.secs.length x.secs.length]∧Own seR 107 W.heap.size (((putAt w1 g 0 [.int .i64 x.shards,.int .i64 x.ttl,.int .i64 x.session,.slice V x.secs.length vc,.int .i64 0,.slice (some ⟨(w1.heap.size+1),0,none⟩) k k,.slice (some ⟨w1.heap.size,0,none⟩) x.secs.length x.secs.length]).alloc (.cells (madeCells #[.int .i64 0] x.secs.length) 3)).alloc (.cells (madeCells zeroC (k*6)) 107)).drew (.slice (some ⟨(w1.heap.size+1),0,none⟩) k k) (List.replicate k zeroSe)∧Own intR 3 W.heap.size (((putAt w1 g 0 [.int .i64 x.shards,.int .i64 x.ttl,.int .i64 x.session,.slice V x.secs.length vc,.int .i64 0,.slice (some ⟨(w1.heap.size+1),0,none⟩) k k,.slice (some ⟨w1.heap.size,0,none⟩) x.secs.length x.secs.length]).alloc (.cells (madeCells #[.int .i64 0] x.secs.length) 3)).alloc (.cells (madeCells zeroC (k*6)) 107)).drew (.slice (some ⟨w1.heap.size,0,none⟩) x.secs.length x.secs.length) (List.replicate x.secs.length 0):=by
 obtain⟨k3,hgr⟩:=hc.put [.int .i64 x.shards,.int .i64 x.ttl,.int .i64 x.session,.slice V x.secs.length vc,.int .i64 0,.slice (some ⟨(w1.heap.size+1),0,none⟩) k k,.slice (some ⟨w1.heap.size,0,none⟩) x.secs.length x.secs.length] (by rw[hl];rfl)
 have hz:(putAt w1 g 0 [.int .i64 x.shards,.int .i64 x.ttl,.int .i64 x.session,.slice V x.secs.length vc,.int .i64 0,.slice (some ⟨(w1.heap.size+1),0,none⟩) k k,.slice (some ⟨w1.heap.size,0,none⟩) x.secs.length x.secs.length]).heap.size=w1.heap.size:=by simp[putAt]
 have hb2:Below W.heap.size W (putAt w1 g 0 [.int .i64 x.shards,.int .i64 x.ttl,.int .i64 x.session,.slice V x.secs.length vc,.int .i64 0,.slice (some ⟨(w1.heap.size+1),0,none⟩) k k,.slice (some ⟨w1.heap.size,0,none⟩) x.secs.length x.secs.length]):=hb.grown hgr hb.size (fun j hj=>by injection hj with hj;omega)
 generalize putAt w1 g 0 [.int .i64 x.shards,.int .i64 x.ttl,.int .i64 x.session,.slice V x.secs.length vc,.int .i64 0,.slice (some ⟨(w1.heap.size+1),0,none⟩) k k,.slice (some ⟨w1.heap.size,0,none⟩) x.secs.length x.secs.length]=w2 at k3 hz hb2⊢
 refine⟨(bal (bal hb2)).drew,((k3.alloc _).alloc _).drew, ?_, ?_⟩
 ·have h:=(own_seatsA (w2.alloc (.cells (madeCells #[.int .i64 0] x.secs.length) 3)) k hk).mono (B':=W.heap.size) (by have:=hb2.size;simp;omega)
  rw[World.size_alloc,hz] at h
  exact h.up (bdd (Below.refl _ _))
 ·have h:=(own_zerosA w2 x.secs.length hs).mono hb2.size
  rw[hz] at h
  exact(h.up (ba _ _)).up (bdd (Below.refl _ _))
def NewPostA (w:World) (V:Option Addr) (vc:Nat) (x:Ve) (e:Ending) (w':World):Prop:=∃F,e=.returned (.tuple #[auV F (newA x).1,.int .i64 (newA x).2])∧Below w.heap.size w w'∧
 ((newA x).2=0→∃a b,F=ownF V vc a b (newA x).1∧a≠b∧Own seR 107 w.heap.size w' (.slice (some ⟨a,0,none⟩) (newA x).1.seats.length (newA x).1.seats.length) (newA x).1.seats∧
  Own intR 3 w.heap.size w' (.slice (some ⟨b,0,none⟩) (newA x).1.waiting.length (newA x).1.waiting.length) (newA x).1.waiting)
set_option maxRecDepth 20000 in
set_option maxHeartbeats 4000000 in
theorem new_anyA {W:World} {V:Option Addr} {vc:Nat} {x:Ve} (hv:Sl secR W (.slice V x.secs.length vc) x.secs) (h1:Bd x.shards) (h2:Bd x.ttl) (h3:Bd x.session):
 Calls Tryz.prog 23 #[.agg #[.int .i64 x.shards,.int .i64 x.ttl,.int .i64 x.session,.slice V x.secs.length vc]] W (NewPostA W V vc x):=by
 have C1:=Lib.hid (fun w (hw:Below W.heap.size W w)=>seats_any _ x w ⟨V,vc,rfl,hv.up hw,h1,h2,h3⟩)
 have hT:=Lib.hid (show newA x=if(seatsV x).2≠0 then(zeroAu,(seatsV x).2) else(⟨x,0,List.replicate (seatsV x).1.toNat zeroSe,List.replicate x.secs.length 0⟩,0) from rfl)
 have hok:=Lib.hid (show(seatsV x).2=0→0≤(seatsV x).1∧(seatsV x).1≤4096∧x.secs.length≤8 by
  intro h
  unfold seatsV at h⊢
  by_cases hc:(checkV x).2≠0
  ·rw[if_pos hc] at h;exact absurd h hc
  ·rw[if_neg hc]
   have h4:=checkV_ok (Decidable.not_not.1 hc)
   refine⟨?_,h4.2.1,h4.1.1⟩
   have h5:=upTo_bd (k:=x.secs.length) (Nat.le_refl _) fun i hi _=>h4.1.2 i hi
   have h6:upTo x.secs x.secs.length=sum (allRows x):=by simp[upTo,allRows]
   omega)
 have hx:=Lib.hid (show Sl secR W (.slice V x.secs.length vc) x.secs from hv)
 generalize seatsV x=E at C1 hT hok
 obtain⟨n,e⟩:=E
 simp only at C1 hT hok
 clear hv h1 h2 h3
 go_enter Tryz.func23,Tryz.ntmps23
 go_wp2_with fail
 refine(C1.out _ (bal (ba _ _))).mono ?_
 rintro e1 w1 ⟨rfl,hb⟩
 have HB:=Lib.hid ((bal (ba W _)).trans (hb.mono (bal (ba W _)).size))
 have k1:=((Cells.new W [.int .i64 x.shards,.int .i64 x.ttl,.int .i64 x.session,.slice V x.secs.length vc] 24).alloc (.cells #[.int .i64 0,.int .i64 0,.int .i64 0,.slice none 0 0,.int .i64 0,.slice none 0 0,.slice none 0 0] 67)).later hb
 have k2:=(Cells.new (W.alloc (.cells #[.int .i64 x.shards,.int .i64 x.ttl,.int .i64 x.session,.slice V x.secs.length vc] 24)) [.int .i64 0,.int .i64 0,.int .i64 0,.slice none 0 0,.int .i64 0,.slice none 0 0,.slice none 0 0] 67).later hb
 rw[World.size_alloc] at k2
 have K1:=Lib.hid k1
 have K2:=Lib.hid k2
 have d0:=k2.c 0 _ rfl
 have f0:=k2.f 0
 have d1:=k2.c 1 _ rfl
 have f1:=k2.f 1
 have d2:=k2.c 2 _ rfl
 have f2:=k2.f 2
 have d3:=k2.c 3 _ rfl
 have f3:=k2.f 3
 have d4:=k2.c 4 _ rfl
 have f4:=k2.f 4
 have d5:=k2.c 5 _ rfl
 have f5:=k2.f 5
 have d6:=k2.c 6 _ rfl
 have f6:=k2.f 6
 have c0:=k1.c 0 _ rfl
 have c1:=k1.c 1 _ rfl
 have c2:=k1.c 2 _ rfl
 have c3:=k1.c 3 _ rfl
 have y1:=k1.lt
 have y2:=k2.lt
 clear hb k1 k2 C1
 by_cases he:e=0
 case neg=>
  have t0:(e !=0)=true:=by simpa using he
  have hN:=Lib.hid (show newA x=(zeroAu,e) by rw[hT.out,if_pos he])
  go_wp2_with fail
  obtain⟨k3,hg⟩:=K2.out.put [.int .i64 0,.int .i64 0,.int .i64 0,.slice none 0 0,.int .i64 0,.slice none 0 0,.slice none 0 0] rfl
  refine at_world (fun w=>Below W.heap.size W w∧Cells w (W.heap.size+1) [.int .i64 0,.int .i64 0,.int .i64 0,.slice none 0 0,.int .i64 0,.slice none 0 0,.slice none 0 0]) ⟨HB.out.grown hg (by have:=HB.out.size;omega) (fun j hj=>by injection hj with hj;omega),k3⟩ fun w2 ⟨hb2,k4⟩=> ?_
  have g0:=k4.c 0 _ rfl
  have g1:=k4.c 1 _ rfl
  have g2:=k4.c 2 _ rfl
  have g3:=k4.c 3 _ rfl
  have g4:=k4.c 4 _ rfl
  have g5:=k4.c 5 _ rfl
  have g6:=k4.c 6 _ rfl
  refine bodyPost_ret (v:=.tuple #[.agg #[.int .i64 0,.int .i64 0,.int .i64 0,.slice none 0 0,.int .i64 0,.slice none 0 0,.slice none 0 0],.int .i64 e]) (by simp[results,Tryz.results23,go_sem,g0,g1,g2,g3,g4,g5,g6]) rfl ⟨⟨none,0,none,0,none,0⟩,by rw[hN.out];rfl,hb2,fun h=>by rw[hN.out] at h;exact absurd h he⟩
 subst he
 obtain⟨hn0,hn1,hm⟩:=hok.out rfl
 obtain⟨k,rfl⟩:=Int.eq_ofNat_of_zero_le hn0
 have hN:=Lib.hid (show newA x=(⟨x,0,List.replicate k zeroSe,List.replicate x.secs.length 0⟩,0) by rw[hT.out,if_neg (by simp),Int.toNat_natCast])
 have hmk1:=mk_seatsA k (by omega)
 have hmk2:=mk_ints x.secs.length (by omega)
 clear hT hok
 go_wp2_with fail
 go_region
 all_goals clear d0 d1 d2 d3 d4 d5 d6 f0 f1 f2 f3 f4 f5 f6 c0 c1 c2 c3
 ·go_wp2_with fail
  have hE:=new_end1A (V:=V) (vc:=vc) (x:=x) (g:=W.heap.size+1) (k:=k) (W:=W) (w1:=w1) rfl HB.out (by omega) K2.out (by omega) (by omega)
  simp only[putAt,Nat.zero_add,Nat.reduceAdd] at hE
  refine at_world (fun w=>Below W.heap.size W w∧Cells w (W.heap.size+1) [.int .i64 x.shards,.int .i64 x.ttl,.int .i64 x.session,.slice V x.secs.length vc,.int .i64 0,.slice (some ⟨w1.heap.size,0,none⟩) k k,.slice (some ⟨(w1.heap.size+1),0,none⟩) x.secs.length x.secs.length]∧Own seR 107 W.heap.size w (.slice (some ⟨w1.heap.size,0,none⟩) k k) (List.replicate k zeroSe)∧Own intR 3 W.heap.size w (.slice (some ⟨(w1.heap.size+1),0,none⟩) x.secs.length x.secs.length) (List.replicate x.secs.length 0)) hE fun w2 ⟨hb2,k4,o1,o2⟩=> ?_
  clear hE
  have g0:=k4.c 0 _ rfl
  have g1:=k4.c 1 _ rfl
  have g2:=k4.c 2 _ rfl
  have g3:=k4.c 3 _ rfl
  have g4:=k4.c 4 _ rfl
  have g5:=k4.c 5 _ rfl
  have g6:=k4.c 6 _ rfl
  refine bodyPost_ret (v:=.tuple #[.agg #[.int .i64 x.shards,.int .i64 x.ttl,.int .i64 x.session,.slice V x.secs.length vc,.int .i64 0,.slice (some ⟨w1.heap.size,0,none⟩) k k,.slice (some ⟨(w1.heap.size+1),0,none⟩) x.secs.length x.secs.length],.int .i64 0]) (by simp[results,Tryz.results23,go_sem,g0,g1,g2,g3,g4,g5,g6]) rfl ⟨ownF V vc w1.heap.size (w1.heap.size+1) ⟨x,0,List.replicate k zeroSe,List.replicate x.secs.length 0⟩, ?_,hb2,fun _=>⟨w1.heap.size,(w1.heap.size+1), ?_⟩⟩
  ·rw[hN.out];simp[auV,ownF]
  ·rw[hN.out];simp only[List.length_replicate];exact⟨by first|trivial|rfl,by omega,o1,o2⟩
 ·go_wp2_with fail
  have hE:=new_end2A (V:=V) (vc:=vc) (x:=x) (g:=W.heap.size+1) (k:=k) (W:=W) (w1:=w1) rfl HB.out (by omega) K2.out (by omega) (by omega)
  simp only[putAt,Nat.zero_add,Nat.reduceAdd] at hE
  refine at_world (fun w=>Below W.heap.size W w∧Cells w (W.heap.size+1) [.int .i64 x.shards,.int .i64 x.ttl,.int .i64 x.session,.slice V x.secs.length vc,.int .i64 0,.slice (some ⟨(w1.heap.size+1),0,none⟩) k k,.slice (some ⟨w1.heap.size,0,none⟩) x.secs.length x.secs.length]∧Own seR 107 W.heap.size w (.slice (some ⟨(w1.heap.size+1),0,none⟩) k k) (List.replicate k zeroSe)∧Own intR 3 W.heap.size w (.slice (some ⟨w1.heap.size,0,none⟩) x.secs.length x.secs.length) (List.replicate x.secs.length 0)) hE fun w2 ⟨hb2,k4,o1,o2⟩=> ?_
  clear hE
  have g0:=k4.c 0 _ rfl
  have g1:=k4.c 1 _ rfl
  have g2:=k4.c 2 _ rfl
  have g3:=k4.c 3 _ rfl
  have g4:=k4.c 4 _ rfl
  have g5:=k4.c 5 _ rfl
  have g6:=k4.c 6 _ rfl
  refine bodyPost_ret (v:=.tuple #[.agg #[.int .i64 x.shards,.int .i64 x.ttl,.int .i64 x.session,.slice V x.secs.length vc,.int .i64 0,.slice (some ⟨(w1.heap.size+1),0,none⟩) k k,.slice (some ⟨w1.heap.size,0,none⟩) x.secs.length x.secs.length],.int .i64 0]) (by simp[results,Tryz.results23,go_sem,g0,g1,g2,g3,g4,g5,g6]) rfl ⟨ownF V vc (w1.heap.size+1) w1.heap.size ⟨x,0,List.replicate k zeroSe,List.replicate x.secs.length 0⟩, ?_,hb2,fun _=>⟨(w1.heap.size+1),w1.heap.size, ?_⟩⟩
  ·rw[hN.out];simp[auV,ownF]
  ·rw[hN.out];simp only[List.length_replicate];exact⟨by first|trivial|rfl,by omega,o1,o2⟩
end Go.Proofs.YtlckmjiioohcmaaGreatDoor
namespace Go.Proofs.YtlckmjiioohcmaaGreatDoor
open Go.RowKit
theorem seatsV_ok {x:Ve} (h:(seatsV x).2=0):(checkV x).2=0∧(seatsV x).1=sum (allRows x):=by
 unfold seatsV at h⊢
 by_cases hc:(checkV x).2≠0
 ·rw[if_pos hc] at h;exact absurd h hc
 ·rw[if_neg hc];exact⟨Decidable.not_not.1 hc,rfl⟩
theorem rows_pos {x:Ve} (h:(checkV x).2=0):0≤sum (allRows x):=by
 have h4:=checkV_ok h
 have h5:=upTo_bd (k:=x.secs.length) (Nat.le_refl _) fun i hi _=>h4.1.2 i hi
 have h6:upTo x.secs x.secs.length=sum (allRows x):=by simp[upTo,allRows]
 omega
theorem queue_at {x:Ve} {i:Nat} (hi:i<x.secs.length):queueOf x i=x.secs[i].queue:=by simp[queueOf,List.getElem?_eq_getElem hi]
theorem new_ok {x:Ve} (h:(newA x).2=0):Aok (newA x).1:=by
 unfold newA at h⊢
 by_cases h1:(seatsV x).2≠0
 ·rw[if_pos h1] at h;exact absurd h h1
 rw[if_neg h1]
 obtain⟨hc,hn⟩:=seatsV_ok (Decidable.not_not.1 h1)
 have hp:=rows_pos hc
 refine⟨hc,by simp[hn];omega,by simp,by simp,fun y hy=> ?_,fun i y hy=> ?_⟩
 ·simp only[List.mem_replicate] at hy
  rw[hy.2];rfl
 ·obtain⟨hi,rfl⟩:=List.getElem?_eq_some_iff.1 hy
  have hi2:i<x.secs.length:=by simpa using hi
  simp only[List.getElem_replicate]
  rw[queue_at hi2]
  have:=(secE_ok ((checkV_ok hc).1.2 i hi2)).2.2.1
  omega
theorem bad_free (x:Se):badA (freeS x)=false:=by simp[badA,freeS]
theorem bad_rev (x:Se):badA (revS x)=false:=by simp[badA,revS]
theorem bad_sold (o:Int) (x:Se):badA (soldS o x)=false:=by simp[badA,soldS]
theorem bad_hold {o t:Int} {x:Se} (h:x.sold=false) (ht:0≤t):badA (holdS o t x)=false:=by
 simp[badA,holdS,h];omega
theorem Aok.seatMod {s:Au} (ok:Aok s) (k:Nat) (f:Se→Se) (hf:∀x,badA (f x)=false):Aok (seatMod s k f):=by
 unfold Go.Proofs.YtlckmjiioohcmaaGreatDoor.seatMod
 split
 ·rename_i x hx
  refine⟨ok.hc,by simpa using ok.hn,ok.hw,ok.hnow,fun y hy=> ?_,ok.hwait⟩
  rcases List.mem_or_eq_of_mem_set hy with h|rfl
  ·exact ok.hbad y h
  ·exact hf x
 ·exact ok
theorem addT_nonneg (a b:Int):0≤(addT a b).1:=by
 unfold addT
 split
 ·simp
 ·split
  ·simp
  ·simp;omega
theorem mem_modSeg {α:Type} {f:α→α} {l:List α} {k m:Nat} {y:α} (h:y∈modSeg f l k m):y∈l∨∃x,x∈(l.drop k).take m∧y=f x:=by
 simp only[modSeg,List.mem_append,List.mem_map] at h
 rcases h with(h|⟨x,hx,rfl⟩)|h
 ·exact .inl (List.mem_of_mem_take h)
 ·exact .inr ⟨x,hx,rfl⟩
 ·exact .inl (List.mem_of_mem_drop h)
theorem learn_ok {s:Au} {op:MOp} {rp:MRp} (ok:Aok s) (h0:∀k,k<11→ruleA s op rp k=false):Aok (learnA s op rp):=by
 have hl:lostA s op rp=false:=h0 2 (by omega)
 unfold learnA
 split
 ·rename_i hq
  have hk:=isB_iff.1 hq
  simp at hk
  have h4:lateA s.ve s.now op.kind rp.deadline=false:=h0 4 (by omega)
  have h5:takenA s.seats op rp=false:=h0 5 (by omega)
  have hd:0≤rp.deadline:=by
   have h1:isB [1,2,3] op.kind=true:=by simp[isB];omega
   have h2:isB [1] op.kind=false:=by simp[isB];omega
   simp[lateA,h1,h2] at h4
   rw[h4];exact addT_nonneg _ _
  have hch:chosenL s.seats op rp=(s.seats.drop (firstA op rp)).take (manyA op rp):=by
   unfold chosenL firstA manyA
   split<;>rfl
  have hall:∀x,x∈(s.seats.drop (firstA op rp)).take (manyA op rp)→x.sold=false:=by
   intro x hx
   simp only[takenA,hq,Bool.true_and,hch,List.any_eq_false] at h5
   have:=h5 x hx
   simp at this
   exact this.1
  have hlen:firstA op rp+manyA op rp≤s.seats.length:=by
   unfold firstA manyA
   rcases hk with hk|hk
   ·obtain⟨k,h1,h2⟩:=lost_seat hl (by rw[hk];rfl) (by rw[hk];rfl)
    have hs:op.seat=(k:Int):=by rw[←h1,seatA,hk];rfl
    simp[isB,hk,hs];omega
   ·obtain⟨k,m,h1,h2,h3,h4⟩:=lost_block ok hl (by rw[hk];rfl)
    simp[isB,hk,h1,h2];omega
  refine⟨ok.hc,by show((modSeg _ s.seats _ _).length:Int)=_;rw[modSeg_len _ _ _ _ hlen];exact ok.hn,ok.hw,ok.hnow,fun y hy=> ?_,ok.hwait⟩
  rcases mem_modSeg hy with h|⟨x,hx,rfl⟩
  ·exact ok.hbad y h
  ·exact bad_hold (hall x hx) hd
 split
 ·rename_i hq
  have hk:=isB_iff.1 hq
  simp at hk
  obtain⟨k,h1,h2⟩:=lost_section hl (by simp[isB];omega)
  refine⟨ok.hc,ok.hn,by simpa using ok.hw,ok.hnow,ok.hbad,fun i y hy=> ?_⟩
  have hw:=ok.hwait k _ (List.getElem?_eq_getElem h2)
  simp only[h1,Int.toNat_natCast] at hy
  by_cases e:k=i
  ·subst e
   rw[List.getElem?_set_self h2] at hy
   injection hy with hy
   subst hy
   simp only[waitOf,List.getElem?_eq_getElem h2]
   have h6:0≤queueOf s.ve k:=by omega
   show 0≤min (s.waiting[k]+1) (queueOf s.ve k)∧min (s.waiting[k]+1) (queueOf s.ve k)≤queueOf s.ve k
   omega
  ·rw[List.getElem?_set_ne e] at hy
   exact ok.hwait i y hy
 split
 ·rename_i hq
  have hk:=isB_iff.1 hq
  simp at hk
  have h9:listA s.ve s.waiting op rp=false:=h0 10 (by omega)
  obtain⟨k,h1,h2⟩:=lost_section hl (by simp[isB];omega)
  refine⟨ok.hc,ok.hn,by simpa using ok.hw,ok.hnow,ok.hbad,fun i y hy=> ?_⟩
  have hw:=ok.hwait k _ (List.getElem?_eq_getElem h2)
  simp[listA,hq,h1,waitOf,List.getElem?_eq_getElem h2] at h9
  simp only[h1,Int.toNat_natCast] at hy
  by_cases e:k=i
  ·subst e
   rw[List.getElem?_set_self h2] at hy
   injection hy with hy
   subst hy
   simp only[waitOf,List.getElem?_eq_getElem h2]
   show 0≤s.waiting[k]-1∧s.waiting[k]-1≤queueOf s.ve k
   omega
  ·rw[List.getElem?_set_ne e] at hy
   exact ok.hwait i y hy
 split
 ·rename_i hq
  have h9:clockA s op=false:=h0 3 (by omega)
  simp[clockA,hq] at h9
  have:=ok.hnow
  refine⟨ok.hc,by simpa using ok.hn,ok.hw,by show 0≤op.now;omega,fun y hy=> ?_,ok.hwait⟩
  obtain⟨x,hx,rfl⟩:=List.mem_map.1 hy
  unfold tickS
  split
  ·exact bad_free x
  ·exact ok.hbad x hx
 split
 ·exact ok.seatMod _ _ bad_free
 split
 ·exact ok.seatMod _ _ (bad_sold _)
 split
 ·exact ok.seatMod _ _ (bad_sold _)
 split
 ·exact ok.seatMod _ _ bad_rev
 ·exact ok
theorem learn_ve (s:Au) (op:MOp) (rp:MRp):(learnA s op rp).ve=s.ve:=by
 unfold learnA seatMod
 repeat' split
 all_goals rfl
theorem read_ok {s:Au} {op:MOp} {rp:MRp} (ok:Aok s):Aok (readA s op rp).2.2:=by
 unfold readA
 split
 ·exact ok
 ·dsimp only
  split
  ·rename_i h
   exact learn_ok ok fun k hk=>broken_rules h.1 h.2 k hk
  ·exact ok
theorem read_ve (s:Au) (op:MOp) (rp:MRp):(readA s op rp).2.2.ve=s.ve:=by
 unfold readA
 split
 ·rfl
 ·dsimp only
  split
  ·exact learn_ve s op rp
  ·rfl
end Go.Proofs.YtlckmjiioohcmaaGreatDoor
namespace Go.Proofs.YtlckmjiioohcmaaGreatDoor
open Go.RowKit
theorem At.range {w:World} {b off:Nat} {cs:List Value} (h:At w b off cs):w.rangeAt b off cs:=h
theorem Cells.range {w:World} {g:Nat} {cs:List Value} (h:Cells w g cs):w.rangeAt g 0 cs:=fun j v hv=>by rw[Nat.zero_add];exact h.c j v hv
theorem heap_new (w:World) (o:Obj):(w.alloc o).heap[w.heap.size]?=some o:=by show(w.heap.push o)[w.heap.size]?=_;simp
theorem box_row (w:World) (old:Array Value) (cs:List Value) (t:TypeId):Below w.heap.size w ((w.alloc (.cells old t)).setRow w.heap.size cs.toArray)∧Cells ((w.alloc (.cells old t)).setRow w.heap.size cs.toArray) w.heap.size cs:=by
 have hg:(w.alloc (.cells old t)).heap[w.heap.size]?=some (.cells old t (0,0)):=heap_new w _
 have hn:=setRow_heap _ _ old cs.toArray t _ hg
 refine⟨below_setRow (ba _ _) (Nat.le_refl _) _,fun j u hu=> ?_,fun j=> ?_,by simp⟩
 ·have h:=cell_setRow_same _ _ j old cs.toArray t _ hg
  rw[h];simpa using hu
 ·unfold World.frozen?;dsimp only;rw[hn];simp
end Go.Proofs.YtlckmjiioohcmaaGreatDoor
namespace Go.Proofs.YtlckmjiioohcmaaGreatDoor
open Go.RowKit
def stR:Rep (MOp×MRp) where
 size:=21
 is _ cs p:=cs=[.int .i64 p.1.kind,.int .u32 p.1.owner,.int .i64 p.1.till,.int .i64 p.1.seat,.int .i64 p.1.section_,.int .i64 p.1.n,.int .u32 p.1.to,.int .u32 p.1.tk.seat,.int .u32 p.1.tk.owner,.int .u64 p.1.tk.serial,.int .u64 p.1.tk.epoch,.int .i64 p.1.now,.int .i64 p.2.err,.int .i64 p.2.seat,.int .i64 p.2.n,.int .i64 p.2.deadline,.int .u32 p.2.tk.seat,.int .u32 p.2.tk.owner,.int .u64 p.2.tk.serial,.int .u64 p.2.tk.epoch,.int .i64 p.2.place]∧OpOk p.1∧RpOk p.2
 len h:=by rw[h.1];rfl
 one h:=by rw[h.1];simp[Value.oneCell']
 up _ h:=h
def faR:Rep (Int×Int) where
 size:=2
 is _ cs p:=cs=[.int .i64 p.1,.int .i64 p.2]∧Bd p.1∧Bd p.2
 len h:=by rw[h.1];rfl
 one h:=by rw[h.1];simp[Value.oneCell']
 up _ h:=h
theorem faR_flat:faR.flat:=fun _ _ _ _ h=>h
theorem infoF:(Tryz.prog.info? 62).map (fun i=>(i.zero,i.size,i.bytes))=some (some (.agg #[.int .i64 0,.int .i64 0]),2,16):=by kernel_rfl
def noOp:MOp:=⟨0,0,0,0,0,0,0,noTk,0⟩
def checkLoop (s:Au) (i:Nat):List (MOp×MRp)→List (Int×Int)→List (Int×Int)×Int
 |[],acc=>(acc,0)
 |p::l,acc=>if(readA s p.1 p.2).2.1≠0 then([],(readA s p.1 p.2).2.1) else checkLoop (readA s p.1 p.2).2.2 (i+1) l (if(readA s p.1 p.2).1≠0 then acc++[((i:Int),(readA s p.1 p.2).1)] else acc)
def checkA (x:Ve) (l:List (MOp×MRp)):List (Int×Int)×Int:=if(newA x).2≠0 then([],(newA x).2) else if 1000<l.length then([],3) else checkLoop (newA x).1 0 l []
theorem broken_bd (s:Au) (op:MOp) (rp:MRp):0≤brokenA s op rp∧brokenA s op rp≤13:=by
 unfold brokenA
 split
 ·omega
 ·split
  ·split<;>omega
  ·split
   ·rename_i k hk
    have:=List.mem_range.1 (List.mem_of_find?_eq_some hk)
    omega
   ·omega
theorem read_bd (s:Au) (op:MOp) (rp:MRp):0≤(readA s op rp).1∧(readA s op rp).1≤13∧((readA s op rp).2.1=0∨(readA s op rp).2.1=2):=by
 unfold readA
 split
 ·simp
 ·exact⟨(broken_bd s op rp).1,(broken_bd s op rp).2,.inl rfl⟩
theorem sl_two (w:World) (g:Nat) (p:Int×Int) (t:TypeId) (hg:g=w.heap.size) (h1:Bd p.1) (h2:Bd p.2):Sl faR (w.alloc (.cells #[.int .i64 p.1,.int .i64 p.2] t)) (.slice (some ⟨g,0,none⟩) 1 1) [p]:=by
 subst hg
 exact Own.sl (Own.lit (R:=faR) (e:=t) (n:=1) (B:=0) (xs:=[p]) (cells:=[.int .i64 p.1,.int .i64 p.2]) rfl (by omega) (Rep.many_one ⟨rfl,h1,h2⟩) rfl (by omega))
theorem RdO.grown {w0 W W':World} {g a b:Nat} {V:Option Addr} {vc:Nat} {s:Au} {op:MOp} {rp:MRp} {row:Option Nat} (h:RdO w0 W g a b V vc s op rp) (hg:W.grownBy W' row) (hr:∀k,row=some k→w0.heap.size≤k) (h1:row≠some g) (h2:row≠some a) (h3:row≠some b):RdO w0 W' g a b V vc s op rp:=
 ⟨h.bw.grown hg h.bw.size hr,h.gB,h.ga,h.gb,h.ab,h.cs.grown hg h1,h.vs,h.ss.kept hg (fun k hk=>by cases hk;exact h2) (fun _ _ h=>h),h.ws.kept hg (fun k hk=>by cases hk;exact h3) (fun _ _ h=>h),h.bv,h.bn,h.bo,h.br⟩
def CheckPost (W:World) (x:Ve) (l:List (MOp×MRp)) (e:Ending) (w':World):Prop:=∃A c,e=.returned (.tuple #[.slice A (checkA x l).1.length c,.int .i64 (checkA x l).2])∧Own faR 62 W.heap.size w' (.slice A (checkA x l).1.length c) (checkA x l).1∧Below W.heap.size W w'
set_option maxRecDepth 20000 in
set_option maxHeartbeats 8000000 in
theorem auCheck_any {W:World} {V:Option Addr} {vc:Nat} {x:Ve} (hv:Sl secR W (.slice V x.secs.length vc) x.secs) (h1:Bd x.shards) (h2:Bd x.ttl) (h3:Bd x.session) {L:Option Addr} {lc:Nat} {l:List (MOp×MRp)} (hl:Sl stR W (.slice L l.length lc) l):
 Calls Tryz.prog 22 #[.agg #[.int .i64 x.shards,.int .i64 x.ttl,.int .i64 x.session,.slice V x.secs.length vc],.slice L l.length lc] W (CheckPost W x l):=by
 have C1:=Lib.hid (fun w (hw:Below W.heap.size W w)=>new_anyA (hv.up hw) h1 h2 h3)
 have hT:=Lib.hid (show checkA x l=if(newA x).2≠0 then([],(newA x).2) else if 1000<l.length then([],3) else checkLoop (newA x).1 0 l [] from rfl)
 have hok:=Lib.hid (show(newA x).2=0→Aok (newA x).1∧(newA x).1.ve=x∧(newA x).1.now=0 from fun h=>⟨new_ok h,by unfold newA at h⊢;split at h<;>rename_i h9;exact absurd h h9;rw[if_neg h9],by unfold newA at h⊢;split at h<;>rename_i h9;exact absurd h h9;rw[if_neg h9]⟩)
 have hcap:=hl.cap
 have HV:=Lib.hid hv
 have HL:=Lib.hid hl
 have HBD:=Lib.hid (And.intro h1 (And.intro h2 h3))
 unfold NewPostA at C1
 generalize newA x=N at C1 hT hok
 obtain⟨s0,e⟩:=N
 simp only at C1 hT hok
 clear hv h1 h2 h3 hl
 go_enter Tryz.func22,Tryz.ntmps22
 go_wp2_with fail
 refine(C1.out _ (ba _ _)).mono ?_
 rintro e1 w1 ⟨F,rfl,hb,hF⟩
 have HB:=Lib.hid ((ba W _).trans (hb.mono (ba W _).size))
 have HF:=Lib.hid hF
 unfold auV
 have y0:W.heap.size<w1.heap.size:=by have:=hb.size;simp at this;omega
 clear hb hF C1
 by_cases he:e=0
 case neg=>as_aux_lemma=>
  have t0:(e !=0)=true:=by simpa using he
  have hN:=Lib.hid (show checkA x l=([],e) by rw[hT.out,if_pos he])
  go_wp2_with fail
  go_ret2
  exact⟨none,0,by rw[hN.out];rfl,by rw[hN.out];exact Own.nil _ _ _ _,bal HB.out⟩
 subst he
 obtain⟨ok0,hve,hnow⟩:=hok.out rfl
 obtain⟨a,b,rfl,hab,o1,o2⟩:=HF.out rfl
 obtain⟨ve,now,seats,waiting⟩:=s0
 dsimp only at hve hnow o1 o2 hT hok HF
 subst hve hnow
 simp only[ownF]
 have o1':=Lib.hid (o1.mono (B':=W.heap.size) (by simp))
 have o2':=Lib.hid (o2.mono (B':=W.heap.size) (by simp))
 clear o1 o2 HF
 by_cases hlong:1000<l.length
 case pos=>as_aux_lemma=>
  have t1:decide ((1000:Int)<(l.length:Int))=true:=decide_eq_true (by omega)
  have hN:=Lib.hid (show checkA ve l=([],3) by rw[hT.out,if_neg (by simp),if_pos hlong])
  go_wp2_with fail
  go_ret2
  exact⟨none,0,by rw[hN.out];rfl,by rw[hN.out];exact Own.nil _ _ _ _,bal HB.out⟩
 have hN:=Lib.hid (show checkA ve l=checkLoop ⟨ve,0,seats,waiting⟩ 0 l [] by rw[hT.out,if_neg (by simp),if_neg hlong])
 clear hT hok
 go_wp2_with fail
 obtain⟨g,hg⟩:∃g,w1.heap.size+1=g:=⟨_,rfl⟩
 have hR:RdO W ((w1.alloc (.cells #[.int .i64 ve.shards,.int .i64 ve.ttl,.int .i64 ve.session,.slice V ve.secs.length vc,.int .i64 0,.slice (some ⟨a,0,none⟩) seats.length seats.length,.slice (some ⟨b,0,none⟩) waiting.length waiting.length] 67)).alloc
  (.cells #[.int .i64 ve.shards,.int .i64 ve.ttl,.int .i64 ve.session,.slice V ve.secs.length vc,.int .i64 0,.slice (some ⟨a,0,none⟩) seats.length seats.length,.slice (some ⟨b,0,none⟩) waiting.length waiting.length,.int .i64 0,
   .int .u32 0,.int .i64 0,.int .i64 0,.int .i64 0,.int .i64 0,.int .u32 0,.int .u32 0,.int .u32 0,.int .u64 0,.int .u64 0,.int .i64 0,.int .i64 0,.int .i64 0,.int .i64 0,.int .i64 0,.int .u32 0,.int .u32 0,.int .u64 0,.int .u64 0,.int .i64 0] 103)) g a b V vc ⟨ve,0,seats,waiting⟩ noOp noRp:=by
  have hc:=Cells.new (w1.alloc (.cells #[.int .i64 ve.shards,.int .i64 ve.ttl,.int .i64 ve.session,.slice V ve.secs.length vc,.int .i64 0,.slice (some ⟨a,0,none⟩) seats.length seats.length,.slice (some ⟨b,0,none⟩) waiting.length waiting.length] 67)) (auCells (ownF V vc a b ⟨ve,0,seats,waiting⟩) ⟨ve,0,seats,waiting⟩++opCells noOp++rpCells noRp) 103
  rw[World.size_alloc,hg] at hc
  have ha:=o1'.out.block.2.1
  have hb':=o2'.out.block.2.1
  have:=HB.out.size
  exact⟨bal (bal HB.out),by omega,by omega,by omega,hab,hc,HV.out,(o1'.out.up (ba _ _)).up (ba _ _),(o2'.out.up (ba _ _)).up (ba _ _),HBD.out,by simp[Bd],by simp[OpOk,noOp,noTk,TkOk,Bd,U32,U64],by simp[RpOk,noRp,noTk,TkOk,Bd,U32,U64]⟩
 rw[hg]
 refine at_world (fun w=>RdO W w g a b V vc ⟨ve,0,seats,waiting⟩ noOp noRp) hR fun w2 hR2=> ?_
 have HR2:=Lib.hid hR2
 have hlg:=Lib.hid hg
 clear hR hR2 hg
 generalize Value.agg #[.int .i64 ve.shards,.int .i64 ve.ttl,.int .i64 ve.session,.slice V ve.secs.length vc,.int .i64 0,.slice (some ⟨a,0,none⟩) seats.length seats.length,.slice (some ⟨b,0,none⟩) waiting.length waiting.length,.int .i64 0,.int .u32 0,.int .i64 0,.int .i64 0,.int .i64 0,.int .i64 0,.int .u32 0,.int .u32 0,.int .u32 0,.int .u64 0,.int .u64 0,.int .i64 0,.int .i64 0,.int .i64 0,.int .i64 0,.int .i64 0,.int .u32 0,.int .u32 0,.int .u64 0,.int .u64 0,.int .i64 0]=X1
 generalize Value.agg #[.int .i64 ve.shards,.int .i64 ve.ttl,.int .i64 ve.session,.slice V ve.secs.length vc,.int .i64 0,.slice (some ⟨a,0,none⟩) seats.length seats.length,.slice (some ⟨b,0,none⟩) waiting.length waiting.length]=X2
 generalize Value.agg #[.int .i64 ve.shards,.int .i64 ve.ttl,.int .i64 ve.session,.slice V ve.secs.length vc]=X3
 go_loopw [9,32] (fun v i wr=> ∃k:Nat,k≤l.length∧i=.int .i64 k∧∃s acc A c op' rp',v=.slice A acc.length c∧acc.length≤k∧Hid (RdO W wr g a b V vc s op' rp')∧Hid (Aok s)∧Hid (Own faR 62 W.heap.size wr v acc)∧Hid (∀j,v.ownBlock=some j→j≠g)∧Hid (checkA ve l=checkLoop s k (l.drop k) acc)) (fun _ i _=>l.length-(intOf i).toNat)
 case atStart=>exact⟨0,by omega,rfl,_,[],none,0,_,_,rfl,by simp,HR2,Lib.hid ok0,Lib.hid (Own.nil _ _ _ _),Lib.hid (fun j hj=>by cases hj),hN⟩
 case round=>
  obtain⟨k,hk,rfl,s,acc,A,c,op',rp',rfl,hacc,RK,OK,OA,OG,HC⟩:=hrel
  by_cases hlt:k<l.length
  ·obtain⟨bl,off,cs,hA,hbl,his,hat⟩:=(HL.out.up RK.out.bw).at_ hlt
   subst hA
   have hdrop:=Lib.hid (List.drop_eq_getElem_cons hlt)
   have hC2:=HC.out
   rw[hdrop.out] at hC2
   replace HC:=Lib.hid hC2
   clear hC2
   generalize l[k]=p at his HC
   obtain⟨op,rp⟩:=p
   have hlen:cs.length=21:=stR.len his
   have hsz:(Tryz.prog.info? 73).map (·.size)=some cs.length:=by rw[hlen];kernel_rfl
   have hsz':(Tryz.prog.info? 73).map (·.size)=some cs.toArray.size:=by simpa using hsz
   have hone:cs.toArray.all (·.oneCell')=true:=all_oneCell_toArray (stR.one his)
   have hst:stV op rp=.agg cs.toArray:=by rw[his.1];rfl
   have ho:=his.2.1
   have hr:=his.2.2
   dsimp only at ho hr
   clear his
   have CR:=Lib.hid (fun w (hw:Below wr.heap.size wr w)=>read_any (RK.out.up hw) OK.out ho hr)
   unfold ReadPost at CR
   rw[hst] at CR
   clear hst
   have hbd:=read_bd s op rp
   have hok:=Lib.hid (read_ok (op:=op) (rp:=rp) OK.out)
   simp only[checkLoop] at HC
   generalize readA s op rp=r at CR hbd hok HC
   obtain⟨n,e,s'⟩:=r
   simp only at CR hbd hok HC
   obtain⟨n0,n1,hee⟩:=hbd
   have ap1:=Lib.hid (OA.out.apart RK.out.ss (by decide))
   have ap2:=Lib.hid (OA.out.apart RK.out.ws (by decide))
   have HAT:=Lib.hid hat
   have HSZ:=Lib.hid hsz
   have HSZ':=Lib.hid hsz'
   have HONE:=Lib.hid hone
   have HLEN:=Lib.hid (show(21:Nat)=cs.toArray.size by simp[hlen])
   clear hat ho hr hdrop hsz hsz' hone hlen
   go_wp2_with (first|(refine wpList_load_mid rfl 73 (.tmp 35) rfl bl (off+k*21) rfl cs _ HAT.out Tryz.underlying73 rfl HSZ.out ?_)|(refine wpList_store_row rfl 73 (.tmp 11) (.tmp 36) rfl wr.heap.size cs.toArray rfl rfl 73 _ (heap_new wr _) HSZ'.out HLEN.out HONE.out ?_;refine at_world (fun w=>Below wr.heap.size wr w∧Cells w wr.heap.size cs) (box_row wr _ cs _) ?_;intro W3 hW3;replace hW3:=Lib.hid hW3)|(refine wpList_load_mid rfl 73 (.tmp 11) rfl wr.heap.size 0 rfl cs _ hW3.out.2.range Tryz.underlying73 rfl HSZ.out ?_))
   refine(CR.out _ hW3.out.1).mono ?_
   rintro e1 w4 ⟨rfl,⟨op2,rp2,R4⟩,ho4⟩
   have HR4:=Lib.hid R4
   have OA4:=Lib.hid (((OA.out.up hW3.out.1).mono (Nat.le_refl _))|>fun h=>Only3.own h ho4 faR_flat fun j hj=>⟨OG.out j hj,fun e=>ap1.out j hj (by rw[e];rfl),fun e=>ap2.out j hj (by rw[e];rfl)⟩)
   clear R4 ho4 CR
   by_cases h0:e=0
   ·subst h0
    have hC':=HC.out
    simp only[ne_eq,not_true_eq_false,if_false] at hC'
    by_cases h1:n=0
    ·as_aux_lemma=>
      subst h1
      simp only[not_true_eq_false,if_false] at hC'
      replace HC:=Lib.hid hC'
      clear hC'
      go_wp2_with fail
      go_roundw
      case rel=>exact⟨k+1,by omega,by go_num,s',acc,A,c,_,_,rfl,by omega,HR4,hok,OA4,OG,HC⟩
      case measure=>simp[intOf];omega
    ·as_aux_lemma=>
      have t1:(n !=0)=true:=by simpa using h1
      rw[if_pos h1] at hC'
      replace HC:=Lib.hid hC'
      have y4:=HR4.out.bw.size
      clear hC'
      go_wp2_with (at_builtin;refine wpList_append_sl _ rfl (.tmp 48) (.tmp 52) 58 rfl faR W.heap.size 62 _ 16 Tryz.underlying58 infoF rfl (by decide) _ acc rfl (OA4.out.up (ba _ _)) _ [((k:Int),n)] rfl (sl_two _ _ _ _ rfl (by unfold Bd;simp;omega) (by unfold Bd;simp;omega)) (by simp;omega) (by decide) (by simp;omega) (fun w' _ cs y h=>faR_flat _ _ _ _ h) ?_;intro v1 w5 hown1 hg1 hat1)
      obtain⟨A1,c1,rfl,_,_,ho1⟩:=hown1.form
      have HG1:=Lib.hid hg1
      have HT1:=Lib.hid hat1
      have HO1:=Lib.hid ho1
      clear hown1 hg1 hat1 ho1
      have HR5:=Lib.hid ((HR4.out.up (ba _ _)).grown HG1.out (fun j hj=>(OA4.out.lt j hj).1) (fun e=>OG.out g e rfl) (fun e=>ap1.out a e rfl) (fun e=>ap2.out b e rfl))
      have hlast:=HR4.out.cs.lt
      go_roundw
      case rel=>
       refine⟨k+1,by omega,by go_num,s',acc++[((k:Int),n)],A1,c1,_,_,rfl,by simp;omega,HR5,hok,HO1,Lib.hid fun j hj=> ?_,HC⟩
       rcases HT1.out with h|h
       ·exact OG.out j (show(Value.slice A acc.length c).ownBlock=some j from h.symm.trans hj)
       ·rw[hj] at h;injection h with h;simp at h;omega
      case measure=>simp[intOf];omega
   ·as_aux_lemma=>
     have t0:(e !=0)=true:=by simpa using h0
     have hC':=HC.out
     rw[if_pos h0] at hC'
     have HC':=Lib.hid hC'
     clear hC' hee
     go_wp2_with fail
     go_ret2
     exact⟨none,0,by rw[HC'.out];rfl,by rw[HC'.out];exact Own.nil _ _ _ _,HR4.out.bw⟩
  ·as_aux_lemma=>
    obtain rfl:k=l.length:=by omega
    have hC':=HC.out
    rw[List.drop_length] at hC'
    simp only[checkLoop] at hC'
    have HC':=Lib.hid hC'
    clear hC'
    go_wp2_with fail
    go_ret2
    exact⟨A,c,by rw[HC'.out];rfl,by rw[HC'.out];exact OA.out,RK.out.bw⟩
end Go.Proofs.YtlckmjiioohcmaaGreatDoor
