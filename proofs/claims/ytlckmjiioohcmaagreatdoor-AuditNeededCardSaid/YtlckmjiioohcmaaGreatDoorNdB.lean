/-
  Walk of groundlinglaw32.spoilt: what a record is spoilt to. Conditions: as the theorem says.
-/
import Derived.Test.YtlckmjiioohcmaaGreatDoorNdA
namespace Go.Proofs.YtlckmjiioohcmaaGreatDoor
open Go.RowKit
def SpoiltPost (w:World) (o:Option (List (MOp×MRp)×Nat)) (e:Ending) (w':World):Prop:=
 (o=none∧e=.returned (.tuple #[.slice none 0 0,.int .i64 (-1)])∧Below w.heap.size w w')∨
 ∃bad at_ A c,o=some (bad,at_)∧e=.returned (.tuple #[.slice A bad.length c,.int .i64 (at_:Int)])∧Sl stR w' (.slice A bad.length c) bad∧Below w.heap.size w w'
def shownSt (p:MOp×MRp):MOp×MRp:=({noOp with kind:=9,tk:=p.2.tk},noRp)
theorem spoilt_none {w W:World} (hb:Below w.heap.size w W):SpoiltPost w none (.returned (.tuple #[.slice none 0 0,.int .i64 (-1)])) W:=.inl ⟨rfl,rfl,hb⟩
theorem spoilt_set {w W w9:World} {l:List (MOp×MRp)} {i:Nat} {P:MOp×MRp} {A:Option Addr} {c:Nat} (hb:Below w.heap.size w W) (ho:Own stR 73 W.heap.size w9 (.slice A l.length c) (l.set i P)) (hb9:Below W.heap.size W w9):
 SpoiltPost w (some (l.set i P,i)) (.returned (.tuple #[.slice A l.length c,.int .i64 (i:Int)])) w9:=
 .inr ⟨_,i,A,c,rfl,by rw[List.length_set],by rw[List.length_set];exact ho.sl,hb.trans (hb9.mono hb.size)⟩
theorem spoilt_put {w W w9:World} {l:List (MOp×MRp)} {i:Nat} {P:MOp×MRp} {A:Option Addr} {c:Nat} (hb:Below w.heap.size w W) (ho:Own stR 73 W.heap.size w9 (.slice A (putM l i P).length c) (putM l i P)) (hb9:Below W.heap.size W w9):
 SpoiltPost w (some (putM l i P,i+1)) (.returned (.tuple #[.slice A (putM l i P).length c,.int .i64 ((i:Int)+1)])) w9:=
 .inr ⟨_,i+1,A,c,rfl,rfl,ho.sl,hb.trans (hb9.mono hb.size)⟩
def setsA (cs:Array Value) (off:Nat):List Value→Array Value
 |[]=>cs
 |u::us=>setsA (cs.setIfInBounds off u) (off+1) us
theorem BoxN.sets {B:Nat} {t:TypeId}:∀(us:List Value) {W:World} {cs:Array Value} {off:Nat},BoxN W B t cs→BoxN (W.setCells B off us) B t (setsA cs off us)
 |[],_,_,_,h=>h
 |u::us,_,_,off,h=>BoxN.sets us (h.set off u)
theorem BoxN.there {W:World} {B off m:Nat} {t:TypeId} {cs:Array Value} (h:BoxN W B t cs) (hm:off+m≤cs.size):W.there B off m:=fun j hj=>
 ⟨by rw[h.cell (off+j) cs[off+j] (Array.getElem?_eq_getElem (by omega))];rfl,h.frozen _⟩
theorem box9 {W:World} {q:Nat} {p:MOp×MRp} (h:BoxN W q 73 (stCells p).toArray):((W.setCell ⟨q,0,none⟩ (.int .i64 5)).setCell ⟨q,1,none⟩ (.int .u32 (inc32 p.1.owner))).there q 12 9∧
 BoxN (((W.setCell ⟨q,0,none⟩ (.int .i64 5)).setCell ⟨q,1,none⟩ (.int .u32 (inc32 p.1.owner))).setCells q 12 (rpCells noRp)) q 73 (stCells ({p.1 with kind:=5,owner:=inc32 p.1.owner},noRp)).toArray:=by
 have h1:=(h.set 0 (.int .i64 5)).set 1 (.int .u32 (inc32 p.1.owner))
 refine⟨h1.there (by simp[stCells]), ?_⟩
 have:=BoxN.sets (rpCells noRp) (off:=12) h1
 have e:setsA (((stCells p).toArray.setIfInBounds 0 (.int .i64 5)).setIfInBounds 1 (.int .u32 (inc32 p.1.owner))) 12 (rpCells noRp)=(stCells ({p.1 with kind:=5,owner:=inc32 p.1.owner},noRp)).toArray:=by
  simp only[stCells,rpCells,setsA,List.setIfInBounds_toArray,List.set_cons_succ,List.set_cons_zero]
 rw[e] at this
 exact this
set_option maxRecDepth 20000 in
set_option maxHeartbeats 40000000 in
theorem spoilt_any {w:World} {V:Option Addr} {vc:Nat} {x:Ve} (hv:Sl secR w (.slice V x.secs.length vc) x.secs) {L:Option Addr} {lc:Nat} {l:List (MOp×MRp)} (hl:Sl stR w (.slice L l.length lc) l) (hlen:l.length≤1000) {i:Nat} (hi:i<l.length) {r:Int} (h1:1≤r) (h2:r≤13)
 (hn1:l[i].2.err=0→l[i].1.kind=3→Bd (l[i].2.n+1)) (hn2:l[i].2.err=0→l[i].1.kind=1∨l[i].1.kind=2∨l[i].1.kind=3→Bd (l[i].2.deadline-1)) (hn3:0<timeM l i→Bd (timeM l i-1)) (hn4:0≤l[i].1.section_→l[i].1.section_<x.secs.length→Bd (queueOf x l[i].1.section_.toNat+1)):
 Calls Tryz.prog 21 #[.agg #[.int .i64 x.shards,.int .i64 x.ttl,.int .i64 x.session,.slice V x.secs.length vc],.slice L l.length lc,.int .i64 (i:Int),.int .i64 r] w (SpoiltPost w (spoilM x l i l[i].1 l[i].2 r (timeM l i))):=by
 have hcap:=hl.cap
 have HL:=Lib.hid hl
 have HV:=Lib.hid hv
 have HLEN:=Lib.hid hlen
 have HI:=Lib.hid hi
 have CT:=Lib.hid (fun W (hb:Below w.heap.size w W)=>time_any (hl.up hb) (Nat.le_of_lt hi))
 have CS:=Lib.hid (fun W (hb:Below w.heap.size w W) p ds hp=>setS_any (hl.up hb) hlen hi (p:=p) (ds:=ds) hp)
 have CP:=Lib.hid (fun W (hb:Below w.heap.size w W) p hp=>put_any (hl.up hb) hlen hi (p:=p) hp)
 obtain⟨bl,off,cs,rfl,hbl,⟨hcs,hoo,hrr⟩,hat⟩:=hl.at_ hi
 have HAT:=Lib.hid (show w.rangeAt bl (off+i*21) cs from hat)
 have HOR:=Lib.hid (And.intro hoo hrr)
 have HCS:=Lib.hid (show cs=stCells l[i] from hcs)
 have S2:=Lib.hid (show(Tryz.prog.info? 73).map (·.size)=some cs.length by rw[hcs];kernel_rfl)
 have S3:=Lib.hid (show(Tryz.prog.info? 73).map (·.size)=some cs.toArray.size by rw[hcs];kernel_rfl)
 have O3:=Lib.hid (show cs.toArray.all (·.oneCell')=true by rw[hcs];simp[Value.oneCell'])
 have L3:=Lib.hid (show(21:Nat)=cs.toArray.size by rw[hcs];rfl)
 have hi0:(0:Int)≤(i:Int):=by omega
 have hi1:(i:Int)<(l.length:Int):=by omega
 have HR:=Lib.hid (And.intro h1 h2)
 have HN:=Lib.hid (And.intro hn1 (And.intro hn2 (And.intro hn3 hn4)))
 clear hn1 hn2 hn3 hn4
 generalize l[i]=p at*
 clear hl hv hcs hoo hrr hat hlen h1 h2
 obtain⟨O,hO⟩:∃O,spoilM x l i p.1 p.2 r (timeM l i)=O:=⟨_,rfl⟩
 rw[hO]
 have HO:=Lib.hid hO
 clear hO
 go_enter Tryz.func21,Tryz.ntmps21
 go_upto_region 1 with fail
 refine at_world (fun X=>Below w.heap.size w X∧BoxN X w.heap.size 24 #[.int .i64 x.shards,.int .i64 x.ttl,.int .i64 x.session,.slice V x.secs.length vc]) ⟨ba _ _,BoxN.new _ _ _⟩ fun w0 hw0=> ?_
 have B0:=Lib.hid hw0.1
 have K0:=Lib.hid hw0.2
 clear hw0
 go_upto_region 2 with(first|refine wpList_load_mid rfl 73 (.tmp 17) rfl bl (off+i*21) rfl cs _ (range_later B0.out HAT.out) Tryz.underlying73 rfl S2.out ?_|refine wpList_store_row rfl 73 (.tmp 10) (.tmp 18) rfl w0.heap.size cs.toArray rfl rfl 73 _ (BoxN.new _ _ _) S3.out L3.out O3.out ?_)
 obtain⟨q,hq⟩:∃q,w0.heap.size=q:=⟨_,rfl⟩
 rw[hq]
 have hbn:=hq▸BoxN.new w0 73 #[.int .i64 0,.int .u32 0,.int .i64 0,.int .i64 0,.int .i64 0,.int .i64 0,.int .u32 0,.int .u32 0,.int .u32 0,.int .u64 0,.int .u64 0,.int .i64 0,.int .i64 0,.int .i64 0,.int .i64 0,.int .i64 0,.int .u32 0,.int .u32 0,.int .u64 0,.int .u64 0,.int .i64 0]
 have hrow:=grownBy_setRow hbn cs.toArray
 refine at_world (fun X=>Below w.heap.size w X∧BoxN X w.heap.size 24 #[.int .i64 x.shards,.int .i64 x.ttl,.int .i64 x.session,.slice V x.secs.length vc]∧BoxN X q 73 (stCells p).toArray) ⟨(bal (o:=.cells #[.int .i64 0,.int .u32 0,.int .i64 0,.int .i64 0,.int .i64 0,.int .i64 0,.int .u32 0,.int .u32 0,.int .u32 0,.int .u64 0,.int .u64 0,.int .i64 0,.int .i64 0,.int .i64 0,.int .i64 0,.int .i64 0,.int .u32 0,.int .u32 0,.int .u64 0,.int .u64 0,.int .i64 0] 73) B0.out).grown hrow.1 (by simp[World.size_alloc];have:=B0.out.size;omega) (fun k hk=>by injection hk with hk;have:=B0.out.size;omega),(K0.out.alloc _).kept hrow.1 (fun e=>by injection e with e;have:=K0.out.lt;omega),by rw[←HCS.out];exact hrow.2⟩ fun w1 hw1=> ?_
 have B1:=Lib.hid hw1.1
 have K1:=Lib.hid hw1.2.1
 have J1:=Lib.hid hw1.2.2
 have hwq:w.heap.size<q:=by have:=K0.out.lt;omega
 clear hw1 hrow hbn hq B0 K0 HAT S3 O3 L3 HCS S2
 have c0:=J1.out.cell 0 (.int .i64 p.1.kind) rfl
 have c12:=J1.out.cell 12 (.int .i64 p.2.err) rfl
 have c16:=J1.out.cell 16 (.int .u32 p.2.tk.seat) rfl
 have c17:=J1.out.cell 17 (.int .u32 p.2.tk.owner) rfl
 have c18:=J1.out.cell 18 (.int .u64 p.2.tk.serial) rfl
 have c19:=J1.out.cell 19 (.int .u64 p.2.tk.epoch) rfl
 go_upto_region 4 with fail
 obtain⟨TE,hTE⟩:∃T,(p.2.err==0)=T:=⟨_,rfl⟩
 rw[hTE]
 have HTE:=Lib.hid hTE
 clear hTE
 obtain⟨TI,hTI⟩:∃T,decide (issuedP p.1 p.2)=T:=⟨_,rfl⟩
 have HTI:=Lib.hid hTI
 clear hTI
 go_cut [13] from 26 to 34 (fun v W=>v=.bool TI∧W=w1)
 case first=>as_aux_lemma=>
  cases TE
  case false=>
   have h1:p.2.err≠0:=by simpa using HTE.out
   obtain rfl:TI=false:=by rw[←HTI.out];simp[issuedP,h1]
   clear h1
   go_wp2_with fail
   go_meet
   exact⟨rfl,rfl⟩
  have h1:p.2.err=0:=by simpa using HTE.out
  by_cases h2:p.1.kind=5
  case pos=>
   have t2:(p.1.kind==5)=true:=by simpa using h2
   obtain rfl:TI=true:=by rw[←HTI.out];simp[issuedP,h1,h2]
   clear h1 h2
   go_wp2_with fail
   go_meet
   exact⟨rfl,rfl⟩
  have t2:(p.1.kind==5)=false:=by simpa using h2
  by_cases h3:p.1.kind=6
  case pos=>
   have t3:(p.1.kind==6)=true:=by simpa using h3
   obtain rfl:TI=true:=by rw[←HTI.out];simp[issuedP,h1,h3]
   clear h1 h2 h3
   go_wp2_with fail
   go_meet
   exact⟨rfl,rfl⟩
  have t3:(p.1.kind==6)=false:=by simpa using h3
  obtain rfl:TI=false:=by rw[←HTI.out];simp[issuedP,h2,h3]
  clear h1 h2 h3
  go_wp2_with fail
  go_meet
  exact⟨rfl,rfl⟩
 case rest=>
 obtain⟨rfl,rfl⟩:=hcut
 rename World=>w1
 have S4:=Lib.hid (show(Tryz.prog.info? 73).map (·.size)=some (stCells (shownSt p)).toArray.size by kernel_rfl)
 have O4:=Lib.hid (show(stCells (shownSt p)).toArray.all (·.oneCell')=true by simp[stCells,Value.oneCell'])
 go_upto_region 7 with(refine wpList_store_row rfl 73 (.tmp 14) (.tmp 39) rfl w1.heap.size (stCells (shownSt p)).toArray rfl rfl 73 _ (BoxN.new _ _ _) S4.out rfl O4.out ?_)
 obtain⟨g,hg⟩:∃g,w1.heap.size=g:=⟨_,rfl⟩
 rw[hg]
 have hbn:=hg▸BoxN.new w1 73 #[.int .i64 0,.int .u32 0,.int .i64 0,.int .i64 0,.int .i64 0,.int .i64 0,.int .u32 0,.int .u32 0,.int .u32 0,.int .u64 0,.int .u64 0,.int .i64 0,.int .i64 0,.int .i64 0,.int .i64 0,.int .i64 0,.int .u32 0,.int .u32 0,.int .u64 0,.int .u64 0,.int .i64 0]
 have hrow:=grownBy_setRow hbn (stCells (shownSt p)).toArray
 refine at_world (fun X=>Below w.heap.size w X∧BoxN X w.heap.size 24 #[.int .i64 x.shards,.int .i64 x.ttl,.int .i64 x.session,.slice V x.secs.length vc]∧BoxN X q 73 (stCells p).toArray∧BoxN X g 73 (stCells (shownSt p)).toArray) ⟨(bal (o:=.cells #[.int .i64 0,.int .u32 0,.int .i64 0,.int .i64 0,.int .i64 0,.int .i64 0,.int .u32 0,.int .u32 0,.int .u32 0,.int .u64 0,.int .u64 0,.int .i64 0,.int .i64 0,.int .i64 0,.int .i64 0,.int .i64 0,.int .u32 0,.int .u32 0,.int .u64 0,.int .u64 0,.int .i64 0] 73) B1.out).grown hrow.1 (by simp[World.size_alloc];have:=B1.out.size;omega) (fun k hk=>by injection hk with hk;have:=B1.out.size;omega),(K1.out.alloc _).kept hrow.1 (fun e=>by injection e with e;have:=K1.out.lt;omega),(J1.out.alloc _).kept hrow.1 (fun e=>by injection e with e;have:=J1.out.lt;omega),hrow.2⟩ fun w2 hw2=> ?_
 have B2:=Lib.hid hw2.1
 have K2:=Lib.hid hw2.2.1
 have J2:=Lib.hid hw2.2.2.1
 have G2:=Lib.hid hw2.2.2.2
 have hqg:q<g:=by have:=J1.out.lt;omega
 clear hw2 hrow hbn hg S4 O4 K1 J1 B1 c0 c12 c16 c17 c18 c19
 have S2:=Lib.hid (show∀p:MOp×MRp,(Tryz.prog.info? 73).map (·.size)=some (stCells p).length from fun p=>by kernel_rfl)
 obtain⟨h1,h2⟩:=HR.out
 have hr:r=1∨r≠1:=by omega
 rcases hr with rfl|hr1
 ·clear h1 h2 HR
  have f0:=J2.out.frozen
  have zq:=J2.out.lt
  by_cases hk:p.1.kind=10
  ·as_aux_lemma=>
    have t1:(p.1.kind==10)=true:=by simpa using hk
    obtain rfl:O=some (l.set i (p.1,{p.2 with seat:=1}),i):=by rw[←HO.out];simp[spoilM,hk]
    clear hk
    have c13:=J2.out.cell 13 (.int .i64 p.2.seat) rfl
    have f13:=f0 13
    clear f0
    have BW:=Lib.hid (B2.out.grown (grownBy_set w2 q 13 (.int .i64 1)) B2.out.size (fun k hk=>by injection hk with hk;omega))
    go_wp2_with (refine wpList_load_mid rfl 73 (.tmp 10) rfl q 0 rfl (stCells (p.1,{p.2 with seat:=1})) _ (BoxN.range2 (show BoxN _ q 73 (stCells (p.1,{p.2 with seat:=1})).toArray from J2.out.set 13 (.int .i64 1))) Tryz.underlying73 rfl (S2.out _) ?_)
    refine(CS.out _ BW.out (p.1,{p.2 with seat:=1}) _ ⟨rfl,HOR.out.1,by obtain⟨a1,a2,a3,a4,a5,a6⟩:=HOR.out.2;exact⟨a1,by simp[Bd],a3,a4,a5,a6⟩⟩).mono ?_
    rintro e w9 ⟨A,c,rfl,ho,hb9⟩
    go_wp2_with fail
    go_ret2
    exact spoilt_set BW.out ho hb9
  ·as_aux_lemma=>
    have t1:(p.1.kind==10)=false:=by simpa using hk
    obtain rfl:O=some (l.set i (p.1,{p.2 with place:=1}),i):=by rw[←HO.out];simp[spoilM,hk]
    clear hk
    have c20:=J2.out.cell 20 (.int .i64 p.2.place) rfl
    have f20:=f0 20
    clear f0
    have BW:=Lib.hid (B2.out.grown (grownBy_set w2 q 20 (.int .i64 1)) B2.out.size (fun k hk=>by injection hk with hk;omega))
    go_wp2_with (refine wpList_load_mid rfl 73 (.tmp 10) rfl q 0 rfl (stCells (p.1,{p.2 with place:=1})) _ (BoxN.range2 (show BoxN _ q 73 (stCells (p.1,{p.2 with place:=1})).toArray from J2.out.set 20 (.int .i64 1))) Tryz.underlying73 rfl (S2.out _) ?_)
    refine(CS.out _ BW.out (p.1,{p.2 with place:=1}) _ ⟨rfl,HOR.out.1,by obtain⟨a1,a2,a3,a4,a5,a6⟩:=HOR.out.2;exact⟨a1,a2,a3,a4,a5,by simp[Bd]⟩⟩).mono ?_
    rintro e w9 ⟨A,c,rfl,ho,hb9⟩
    go_wp2_with fail
    go_ret2
    exact spoilt_set BW.out ho hb9
 have hr:r=2∨r≠2:=by omega
 rcases hr with rfl|hr2
 ·clear h1 h2 HR hr1
  have zg:=G2.out.lt
  have fg:=G2.out.frozen 12
  have cg:=G2.out.cell 12 (.int .i64 0) rfl
  cases TI
  case false=>
   as_aux_lemma=>
    obtain rfl:O=none:=by rw[←HO.out];simp[spoilM,show¬issuedP p.1 p.2 by simpa using HTI.out]
    go_wp2_with fail
    go_ret2
    exact spoilt_none B2.out
  case true=>
   as_aux_lemma=>
    have hp:=of_decide_eq_true HTI.out
    obtain rfl:O=some (putM l i ({noOp with kind:=9,tk:=p.2.tk},{noRp with err:=16}),i+1):=by rw[←HO.out];simp[spoilM,hp]
    clear hp
    have BW:=Lib.hid (B2.out.grown (grownBy_set w2 g 12 (.int .i64 16)) B2.out.size (fun k hk=>by injection hk with hk;omega))
    go_wp2_with (refine wpList_load_mid rfl 73 (.tmp 14) rfl g 0 rfl (stCells ({noOp with kind:=9,tk:=p.2.tk},{noRp with err:=16})) _ (BoxN.range2 (show BoxN _ g 73 (stCells ({noOp with kind:=9,tk:=p.2.tk},{noRp with err:=16})).toArray from G2.out.set 12 (.int .i64 16))) Tryz.underlying73 rfl (S2.out _) ?_)
    refine(CP.out _ BW.out ({noOp with kind:=9,tk:=p.2.tk},{noRp with err:=16}) ⟨by have:=HOR.out.2.2.2.2.2.1;simp[OpOk,noOp,Bd,U32];exact this,by simp[RpOk,noRp,noTk,Bd,TkOk,U32,U64]⟩).mono ?_
    rintro e w9 ⟨A,c,rfl,ho,hb9⟩
    go_wp2_with fail
    go_ret2
    exact spoilt_put BW.out ho hb9
 have hr:r=3∨r≠3:=by omega
 rcases hr with rfl|hr3
 ·clear h1 h2 HR hr1 hr2
  have f0:=J2.out.frozen
  have zq:=J2.out.lt
  cases TE
  case false=>
   as_aux_lemma=>
    have hE:p.2.err≠0:=by simpa using HTE.out
    obtain rfl:O=none:=by rw[←HO.out];simp[spoilM,issuedP,hE]
    clear hE
    go_wp2_with fail
    go_ret2
    exact spoilt_none B2.out
  have hE:p.2.err=0:=by simpa using HTE.out
  by_cases hk:p.1.kind≠1∧p.1.kind≠9∧p.1.kind≠12
  ·as_aux_lemma=>
    obtain rfl:O=some (l.set i ({p.1 with till:=0},p.2),i):=by rw[←HO.out];simp[spoilM,hE,hk]
    have CD:=Lib.hid (fun X=>show Calls Tryz.prog 47 #[.int .i64 p.1.kind] X fun e w'=>e=.returned (.bool true)∧w'=X by have:=sess32_any p.1.kind X;rwa[decide_eq_true hk] at this)
    clear hE hk
    have c2:=J2.out.cell 2 (.int .i64 p.1.till) rfl
    have f2:=f0 2
    clear f0
    have BW:=Lib.hid (B2.out.grown (grownBy_set w2 q 2 (.int .i64 0)) B2.out.size (fun k hk=>by injection hk with hk;omega))
    go_wp2_with fail
    refine(CD.out _).mono ?_
    rintro e w9 ⟨rfl,h9⟩
    obtain rfl:=h9.symm
    go_wp2_with (refine wpList_load_mid rfl 73 (.tmp 10) rfl q 0 rfl (stCells ({p.1 with till:=0},p.2)) _ (BoxN.range2 (show BoxN _ q 73 (stCells ({p.1 with till:=0},p.2)).toArray from J2.out.set 2 (.int .i64 0))) Tryz.underlying73 rfl (S2.out _) ?_)
    refine(CS.out _ BW.out ({p.1 with till:=0},p.2) _ ⟨rfl,by obtain⟨a1,a2,a3,a4,a5,a6,a7,a8,a9⟩:=HOR.out.1;exact⟨a1,a2,by simp[Bd],a4,a5,a6,a7,a8,a9⟩,HOR.out.2⟩).mono ?_
    rintro e w9 ⟨A,c,rfl,ho,hb9⟩
    go_wp2_with fail
    go_ret2
    exact spoilt_set BW.out ho hb9
  as_aux_lemma=>
   obtain rfl:O=none:=by rw[←HO.out];simp only[spoilM,hE];simp[hk]
   have CD:=Lib.hid (fun X=>show Calls Tryz.prog 47 #[.int .i64 p.1.kind] X fun e w'=>e=.returned (.bool false)∧w'=X by have:=sess32_any p.1.kind X;rwa[decide_eq_false hk] at this)
   clear hE hk f0
   go_wp2_with fail
   refine(CD.out _).mono ?_
   rintro e w9 ⟨rfl,h9⟩
   obtain rfl:=h9.symm
   go_wp2_with fail
   go_ret2
   exact spoilt_none B2.out
 have hr:r=4∨r≠4:=by omega
 rcases hr with rfl|hr4
 ·clear h1 h2 HR hr1 hr2 hr3
  have f0:=J2.out.frozen
  have zq:=J2.out.lt
  cases TE
  case false=>
   as_aux_lemma=>
    have hE:p.2.err≠0:=by simpa using HTE.out
    obtain rfl:O=none:=by rw[←HO.out];simp[spoilM,issuedP,hE]
    clear hE
    go_wp2_with fail
    go_ret2
    exact spoilt_none B2.out
  have hE:p.2.err=0:=by simpa using HTE.out
  by_cases hk8:p.1.kind=8
  ·as_aux_lemma=>
    have t8:(p.1.kind==8)=true:=by simpa using hk8
    obtain rfl:O=some (l.set i ({p.1 with owner:=inc32 p.1.owner},p.2),i):=by rw[←HO.out];simp[spoilM,hE,hk8]
    clear hE hk8
    have hi:U32 (inc32 p.1.owner):=by unfold inc32 U32;omega
    have c1:=J2.out.cell 1 (.int .u32 p.1.owner) rfl
    have f1:=f0 1
    clear f0
    have w32:IntKind.u32.wrap (p.1.owner+1)=inc32 p.1.owner:=rfl
    have BW:=Lib.hid (B2.out.grown (grownBy_set w2 q 1 (.int .u32 (inc32 p.1.owner))) B2.out.size (fun k hk=>by injection hk with hk;omega))
    go_wp2_with (refine wpList_load_mid rfl 73 (.tmp 10) rfl q 0 rfl (stCells ({p.1 with owner:=inc32 p.1.owner},p.2)) _ (BoxN.range2 (show BoxN _ q 73 (stCells ({p.1 with owner:=inc32 p.1.owner},p.2)).toArray from J2.out.set 1 (.int .u32 (inc32 p.1.owner)))) Tryz.underlying73 rfl (S2.out _) ?_)
    refine(CS.out _ BW.out ({p.1 with owner:=inc32 p.1.owner},p.2) _ ⟨rfl,by obtain⟨a1,a2,a3,a4,a5,a6,a7,a8,a9⟩:=HOR.out.1;exact⟨a1,hi,a3,a4,a5,a6,a7,a8,a9⟩,HOR.out.2⟩).mono ?_
    rintro e w9 ⟨A,c,rfl,ho,hb9⟩
    go_wp2_with fail
    go_ret2
    exact spoilt_set BW.out ho hb9
  have t8:(p.1.kind==8)=false:=by simpa using hk8
  by_cases hk6:p.1.kind=6
  ·as_aux_lemma=>
    have t6:(p.1.kind==6)=true:=by simpa using hk6
    obtain rfl:O=some (l.set i ({p.1 with owner:=inc32 p.1.owner},p.2),i):=by rw[←HO.out];simp[spoilM,hE,hk6]
    clear hE hk8 hk6
    have hi:U32 (inc32 p.1.owner):=by unfold inc32 U32;omega
    have c1:=J2.out.cell 1 (.int .u32 p.1.owner) rfl
    have f1:=f0 1
    clear f0
    have w32:IntKind.u32.wrap (p.1.owner+1)=inc32 p.1.owner:=rfl
    have BW:=Lib.hid (B2.out.grown (grownBy_set w2 q 1 (.int .u32 (inc32 p.1.owner))) B2.out.size (fun k hk=>by injection hk with hk;omega))
    go_wp2_with (refine wpList_load_mid rfl 73 (.tmp 10) rfl q 0 rfl (stCells ({p.1 with owner:=inc32 p.1.owner},p.2)) _ (BoxN.range2 (show BoxN _ q 73 (stCells ({p.1 with owner:=inc32 p.1.owner},p.2)).toArray from J2.out.set 1 (.int .u32 (inc32 p.1.owner)))) Tryz.underlying73 rfl (S2.out _) ?_)
    refine(CS.out _ BW.out ({p.1 with owner:=inc32 p.1.owner},p.2) _ ⟨rfl,by obtain⟨a1,a2,a3,a4,a5,a6,a7,a8,a9⟩:=HOR.out.1;exact⟨a1,hi,a3,a4,a5,a6,a7,a8,a9⟩,HOR.out.2⟩).mono ?_
    rintro e w9 ⟨A,c,rfl,ho,hb9⟩
    go_wp2_with fail
    go_ret2
    exact spoilt_set BW.out ho hb9
  have t6:(p.1.kind==6)=false:=by simpa using hk6
  by_cases hk7:p.1.kind=7
  ·as_aux_lemma=>
    have t7:(p.1.kind==7)=true:=by simpa using hk7
    obtain rfl:O=some (l.set i ({p.1 with owner:=inc32 p.1.owner},p.2),i):=by rw[←HO.out];simp[spoilM,hE,hk7]
    clear hE hk8 hk6 hk7
    have hi:U32 (inc32 p.1.owner):=by unfold inc32 U32;omega
    have c1:=J2.out.cell 1 (.int .u32 p.1.owner) rfl
    have f1:=f0 1
    clear f0
    have w32:IntKind.u32.wrap (p.1.owner+1)=inc32 p.1.owner:=rfl
    have BW:=Lib.hid (B2.out.grown (grownBy_set w2 q 1 (.int .u32 (inc32 p.1.owner))) B2.out.size (fun k hk=>by injection hk with hk;omega))
    go_wp2_with (refine wpList_load_mid rfl 73 (.tmp 10) rfl q 0 rfl (stCells ({p.1 with owner:=inc32 p.1.owner},p.2)) _ (BoxN.range2 (show BoxN _ q 73 (stCells ({p.1 with owner:=inc32 p.1.owner},p.2)).toArray from J2.out.set 1 (.int .u32 (inc32 p.1.owner)))) Tryz.underlying73 rfl (S2.out _) ?_)
    refine(CS.out _ BW.out ({p.1 with owner:=inc32 p.1.owner},p.2) _ ⟨rfl,by obtain⟨a1,a2,a3,a4,a5,a6,a7,a8,a9⟩:=HOR.out.1;exact⟨a1,hi,a3,a4,a5,a6,a7,a8,a9⟩,HOR.out.2⟩).mono ?_
    rintro e w9 ⟨A,c,rfl,ho,hb9⟩
    go_wp2_with fail
    go_ret2
    exact spoilt_set BW.out ho hb9
  have t7:(p.1.kind==7)=false:=by simpa using hk7
  as_aux_lemma=>
   obtain rfl:O=none:=by rw[←HO.out];simp[spoilM,hE,hk8,hk6,hk7]
   clear hE hk8 hk6 hk7
   go_wp2_with fail
   go_ret2
   exact spoilt_none B2.out
 have hr:r=5∨r≠5:=by omega
 rcases hr with rfl|hr5
 ·clear h1 h2 HR hr1 hr2 hr3 hr4
  have f0:=J2.out.frozen
  have zq:=J2.out.lt
  cases TE
  case false=>
   as_aux_lemma=>
    have hE:p.2.err≠0:=by simpa using HTE.out
    obtain rfl:O=none:=by rw[←HO.out];simp[spoilM,issuedP,hE]
    clear hE
    go_wp2_with fail
    go_ret2
    exact spoilt_none B2.out
  have hE:p.2.err=0:=by simpa using HTE.out
  have HN5:=Lib.hid (show p.1.kind=3→Bd (p.2.n+1) from HN.out.1 hE)
  by_cases hk2:p.1.kind=2
  ·as_aux_lemma=>
    have t2:(p.1.kind==2)=true:=by simpa using hk2
    obtain rfl:O=some (l.set i ({p.1 with seat:=4096},p.2),i):=by rw[←HO.out];simp[spoilM,hE,hk2]
    clear hE hk2
    have c3:=J2.out.cell 3 (.int .i64 p.1.seat) rfl
    have f3:=f0 3
    clear f0
    have BW:=Lib.hid (B2.out.grown (grownBy_set w2 q 3 (.int .i64 4096)) B2.out.size (fun k hk=>by injection hk with hk;omega))
    go_wp2_with (refine wpList_load_mid rfl 73 (.tmp 10) rfl q 0 rfl (stCells ({p.1 with seat:=4096},p.2)) _ (BoxN.range2 (show BoxN _ q 73 (stCells ({p.1 with seat:=4096},p.2)).toArray from J2.out.set 3 (.int .i64 4096))) Tryz.underlying73 rfl (S2.out _) ?_)
    refine(CS.out _ BW.out ({p.1 with seat:=4096},p.2) _ ⟨rfl,by obtain⟨a1,a2,a3,a4,a5,a6,a7,a8,a9⟩:=HOR.out.1;exact⟨a1,a2,a3,by simp[Bd],a5,a6,a7,a8,a9⟩,HOR.out.2⟩).mono ?_
    rintro e w9 ⟨A,c,rfl,ho,hb9⟩
    go_wp2_with fail
    go_ret2
    exact spoilt_set BW.out ho hb9
  have t2:(p.1.kind==2)=false:=by simpa using hk2
  by_cases hk4:p.1.kind=4
  ·as_aux_lemma=>
    have t4:(p.1.kind==4)=true:=by simpa using hk4
    obtain rfl:O=some (l.set i ({p.1 with seat:=4096},p.2),i):=by rw[←HO.out];simp[spoilM,hE,hk4]
    clear hE hk2 hk4
    have c3:=J2.out.cell 3 (.int .i64 p.1.seat) rfl
    have f3:=f0 3
    clear f0
    have BW:=Lib.hid (B2.out.grown (grownBy_set w2 q 3 (.int .i64 4096)) B2.out.size (fun k hk=>by injection hk with hk;omega))
    go_wp2_with (refine wpList_load_mid rfl 73 (.tmp 10) rfl q 0 rfl (stCells ({p.1 with seat:=4096},p.2)) _ (BoxN.range2 (show BoxN _ q 73 (stCells ({p.1 with seat:=4096},p.2)).toArray from J2.out.set 3 (.int .i64 4096))) Tryz.underlying73 rfl (S2.out _) ?_)
    refine(CS.out _ BW.out ({p.1 with seat:=4096},p.2) _ ⟨rfl,by obtain⟨a1,a2,a3,a4,a5,a6,a7,a8,a9⟩:=HOR.out.1;exact⟨a1,a2,a3,by simp[Bd],a5,a6,a7,a8,a9⟩,HOR.out.2⟩).mono ?_
    rintro e w9 ⟨A,c,rfl,ho,hb9⟩
    go_wp2_with fail
    go_ret2
    exact spoilt_set BW.out ho hb9
  have t4:(p.1.kind==4)=false:=by simpa using hk4
  by_cases hk5:p.1.kind=5
  ·as_aux_lemma=>
    have t5:(p.1.kind==5)=true:=by simpa using hk5
    obtain rfl:O=some (l.set i ({p.1 with seat:=4096},p.2),i):=by rw[←HO.out];simp[spoilM,hE,hk5]
    clear hE hk2 hk4 hk5
    have c3:=J2.out.cell 3 (.int .i64 p.1.seat) rfl
    have f3:=f0 3
    clear f0
    have BW:=Lib.hid (B2.out.grown (grownBy_set w2 q 3 (.int .i64 4096)) B2.out.size (fun k hk=>by injection hk with hk;omega))
    go_wp2_with (refine wpList_load_mid rfl 73 (.tmp 10) rfl q 0 rfl (stCells ({p.1 with seat:=4096},p.2)) _ (BoxN.range2 (show BoxN _ q 73 (stCells ({p.1 with seat:=4096},p.2)).toArray from J2.out.set 3 (.int .i64 4096))) Tryz.underlying73 rfl (S2.out _) ?_)
    refine(CS.out _ BW.out ({p.1 with seat:=4096},p.2) _ ⟨rfl,by obtain⟨a1,a2,a3,a4,a5,a6,a7,a8,a9⟩:=HOR.out.1;exact⟨a1,a2,a3,by simp[Bd],a5,a6,a7,a8,a9⟩,HOR.out.2⟩).mono ?_
    rintro e w9 ⟨A,c,rfl,ho,hb9⟩
    go_wp2_with fail
    go_ret2
    exact spoilt_set BW.out ho hb9
  have t5:(p.1.kind==5)=false:=by simpa using hk5
  by_cases hk8:p.1.kind=8
  ·as_aux_lemma=>
    have t8:(p.1.kind==8)=true:=by simpa using hk8
    obtain rfl:O=some (l.set i ({p.1 with seat:=4096},p.2),i):=by rw[←HO.out];simp[spoilM,hE,hk8]
    clear hE hk2 hk4 hk5 hk8
    have c3:=J2.out.cell 3 (.int .i64 p.1.seat) rfl
    have f3:=f0 3
    clear f0
    have BW:=Lib.hid (B2.out.grown (grownBy_set w2 q 3 (.int .i64 4096)) B2.out.size (fun k hk=>by injection hk with hk;omega))
    go_wp2_with (refine wpList_load_mid rfl 73 (.tmp 10) rfl q 0 rfl (stCells ({p.1 with seat:=4096},p.2)) _ (BoxN.range2 (show BoxN _ q 73 (stCells ({p.1 with seat:=4096},p.2)).toArray from J2.out.set 3 (.int .i64 4096))) Tryz.underlying73 rfl (S2.out _) ?_)
    refine(CS.out _ BW.out ({p.1 with seat:=4096},p.2) _ ⟨rfl,by obtain⟨a1,a2,a3,a4,a5,a6,a7,a8,a9⟩:=HOR.out.1;exact⟨a1,a2,a3,by simp[Bd],a5,a6,a7,a8,a9⟩,HOR.out.2⟩).mono ?_
    rintro e w9 ⟨A,c,rfl,ho,hb9⟩
    go_wp2_with fail
    go_ret2
    exact spoilt_set BW.out ho hb9
  have t8:(p.1.kind==8)=false:=by simpa using hk8
  by_cases hk3:p.1.kind=3
  ·as_aux_lemma=>
    have t3:(p.1.kind==3)=true:=by simpa using hk3
    obtain rfl:O=some (l.set i (p.1,{p.2 with n:=p.2.n+1}),i):=by rw[←HO.out];simp[spoilM,hE,hk3]
    clear hE hk2 hk4 hk5 hk8 hk3
    have hb:=HN5.out (by simpa using t3)
    have c14:=J2.out.cell 14 (.int .i64 p.2.n) rfl
    have f14:=f0 14
    clear f0
    have w14:IntKind.i64.wrap (p.2.n+1)=p.2.n+1:=IntWalk.i64_in _ hb
    have BW:=Lib.hid (B2.out.grown (grownBy_set w2 q 14 (.int .i64 (p.2.n+1))) B2.out.size (fun k hk=>by injection hk with hk;omega))
    go_wp2_with (refine wpList_load_mid rfl 73 (.tmp 10) rfl q 0 rfl (stCells (p.1,{p.2 with n:=p.2.n+1})) _ (BoxN.range2 (show BoxN _ q 73 (stCells (p.1,{p.2 with n:=p.2.n+1})).toArray from J2.out.set 14 (.int .i64 (p.2.n+1)))) Tryz.underlying73 rfl (S2.out _) ?_)
    refine(CS.out _ BW.out (p.1,{p.2 with n:=p.2.n+1}) _ ⟨rfl,HOR.out.1,by obtain⟨a1,a2,a3,a4,a5,a6⟩:=HOR.out.2;exact⟨a1,a2,hb,a4,a5,a6⟩⟩).mono ?_
    rintro e w9 ⟨A,c,rfl,ho,hb9⟩
    go_wp2_with fail
    go_ret2
    exact spoilt_set BW.out ho hb9
  have t3:(p.1.kind==3)=false:=by simpa using hk3
  by_cases hk10:p.1.kind=10
  ·as_aux_lemma=>
    have t10:(p.1.kind==10)=true:=by simpa using hk10
    obtain rfl:O=some (l.set i ({p.1 with section_:=8},p.2),i):=by rw[←HO.out];simp[spoilM,hE,hk10]
    clear hE hk2 hk4 hk5 hk8 hk3 hk10
    have c4:=J2.out.cell 4 (.int .i64 p.1.section_) rfl
    have f4:=f0 4
    clear f0
    have BW:=Lib.hid (B2.out.grown (grownBy_set w2 q 4 (.int .i64 8)) B2.out.size (fun k hk=>by injection hk with hk;omega))
    go_wp2_with (refine wpList_load_mid rfl 73 (.tmp 10) rfl q 0 rfl (stCells ({p.1 with section_:=8},p.2)) _ (BoxN.range2 (show BoxN _ q 73 (stCells ({p.1 with section_:=8},p.2)).toArray from J2.out.set 4 (.int .i64 8))) Tryz.underlying73 rfl (S2.out _) ?_)
    refine(CS.out _ BW.out ({p.1 with section_:=8},p.2) _ ⟨rfl,by obtain⟨a1,a2,a3,a4,a5,a6,a7,a8,a9⟩:=HOR.out.1;exact⟨a1,a2,a3,a4,by simp[Bd],a6,a7,a8,a9⟩,HOR.out.2⟩).mono ?_
    rintro e w9 ⟨A,c,rfl,ho,hb9⟩
    go_wp2_with fail
    go_ret2
    exact spoilt_set BW.out ho hb9
  have t10:(p.1.kind==10)=false:=by simpa using hk10
  by_cases hk11:p.1.kind=11
  ·as_aux_lemma=>
    have t11:(p.1.kind==11)=true:=by simpa using hk11
    obtain rfl:O=some (l.set i ({p.1 with section_:=8},p.2),i):=by rw[←HO.out];simp[spoilM,hE,hk11]
    clear hE hk2 hk4 hk5 hk8 hk3 hk10 hk11
    have c4:=J2.out.cell 4 (.int .i64 p.1.section_) rfl
    have f4:=f0 4
    clear f0
    have BW:=Lib.hid (B2.out.grown (grownBy_set w2 q 4 (.int .i64 8)) B2.out.size (fun k hk=>by injection hk with hk;omega))
    go_wp2_with (refine wpList_load_mid rfl 73 (.tmp 10) rfl q 0 rfl (stCells ({p.1 with section_:=8},p.2)) _ (BoxN.range2 (show BoxN _ q 73 (stCells ({p.1 with section_:=8},p.2)).toArray from J2.out.set 4 (.int .i64 8))) Tryz.underlying73 rfl (S2.out _) ?_)
    refine(CS.out _ BW.out ({p.1 with section_:=8},p.2) _ ⟨rfl,by obtain⟨a1,a2,a3,a4,a5,a6,a7,a8,a9⟩:=HOR.out.1;exact⟨a1,a2,a3,a4,by simp[Bd],a6,a7,a8,a9⟩,HOR.out.2⟩).mono ?_
    rintro e w9 ⟨A,c,rfl,ho,hb9⟩
    go_wp2_with fail
    go_ret2
    exact spoilt_set BW.out ho hb9
  have t11:(p.1.kind==11)=false:=by simpa using hk11
  as_aux_lemma=>
   obtain rfl:O=none:=by rw[←HO.out];simp[spoilM,hE,hk2,hk4,hk5,hk8,hk3,hk10,hk11]
   clear hE hk2 hk4 hk5 hk8 hk3 hk10 hk11
   go_wp2_with fail
   go_ret2
   exact spoilt_none B2.out
 have hr:r=6∨r≠6:=by omega
 rcases hr with rfl|hr6
 ·clear h1 h2 HR hr1 hr2 hr3 hr4 hr5
  have f0:=J2.out.frozen
  have zq:=J2.out.lt
  cases TE
  case false=>
   as_aux_lemma=>
    have hE:p.2.err≠0:=by simpa using HTE.out
    obtain rfl:O=none:=by rw[←HO.out];simp[spoilM,issuedP,hE]
    clear hE
    go_wp2_with fail
    go_ret2
    exact spoilt_none B2.out
  have hE:p.2.err=0:=by simpa using HTE.out
  have HN6:=Lib.hid HN.out.2.2.1
  have CT:=CT
  generalize timeM l i=T at*
  by_cases hk:p.1.kind=12
  case neg=>
   as_aux_lemma=>
    have t1:(p.1.kind==12)=false:=by simpa using hk
    obtain rfl:O=none:=by rw[←HO.out];simp[spoilM,hE,hk]
    clear hE hk f0
    go_wp2_with fail
    go_ret2
    exact spoilt_none B2.out
  have t1:(p.1.kind==12)=true:=by simpa using hk
  by_cases ht:0<T
  case neg=>
   as_aux_lemma=>
    have t2:decide (0<T)=false:=by simpa using ht
    obtain rfl:O=none:=by rw[←HO.out];simp[spoilM,hE,hk,ht]
    clear hE hk ht f0
    go_wp2_with fail
    refine(CT.out _ B2.out).mono ?_
    rintro e w9 ⟨rfl,h9⟩
    obtain rfl:=h9.symm
    go_wp2_with fail
    go_ret2
    exact spoilt_none B2.out
  as_aux_lemma=>
   have t2:decide (0<T)=true:=by simpa using ht
   have hb:=HN6.out ht
   obtain rfl:O=some (l.set i ({p.1 with now:=T-1},p.2),i):=by rw[←HO.out];simp[spoilM,hE,hk,ht]
   clear hE hk ht
   have c11:=J2.out.cell 11 (.int .i64 p.1.now) rfl
   have f11:=f0 11
   clear f0
   have w6:IntKind.i64.wrap (T-1)=T-1:=IntWalk.i64_in _ hb
   have BW:=Lib.hid (B2.out.grown (grownBy_set w2 q 11 (.int .i64 (T-1))) B2.out.size (fun k hk=>by injection hk with hk;omega))
   go_wp2_with fail
   refine(CT.out _ B2.out).mono ?_
   rintro e w9 ⟨rfl,h9⟩
   obtain rfl:=h9.symm
   go_wp2_with fail
   refine(CT.out _ B2.out).mono ?_
   rintro e w9 ⟨rfl,h9⟩
   obtain rfl:=h9.symm
   go_wp2_with (refine wpList_load_mid rfl 73 (.tmp 10) rfl q 0 rfl (stCells ({p.1 with now:=T-1},p.2)) _ (BoxN.range2 (show BoxN _ q 73 (stCells ({p.1 with now:=T-1},p.2)).toArray from J2.out.set 11 (.int .i64 (T-1)))) Tryz.underlying73 rfl (S2.out _) ?_)
   refine(CS.out _ BW.out ({p.1 with now:=T-1},p.2) _ ⟨rfl,by obtain⟨a1,a2,a3,a4,a5,a6,a7,a8,a9⟩:=HOR.out.1;exact⟨a1,a2,a3,a4,a5,a6,a7,a8,hb⟩,HOR.out.2⟩).mono ?_
   rintro e w9 ⟨A,c,rfl,ho,hb9⟩
   go_wp2_with fail
   go_ret2
   exact spoilt_set BW.out ho hb9
 have hr:r=7∨r≠7:=by omega
 rcases hr with rfl|hr7
 ·clear h1 h2 HR hr1 hr2 hr3 hr4 hr5 hr6
  have f0:=J2.out.frozen
  have zq:=J2.out.lt
  cases TE
  case false=>
   as_aux_lemma=>
    have hE:p.2.err≠0:=by simpa using HTE.out
    obtain rfl:O=none:=by rw[←HO.out];simp[spoilM,issuedP,hE]
    clear hE
    go_wp2_with fail
    go_ret2
    exact spoilt_none B2.out
  have hE:p.2.err=0:=by simpa using HTE.out
  have HN7:=Lib.hid (show p.1.kind=1∨p.1.kind=2∨p.1.kind=3→Bd (p.2.deadline-1) from HN.out.2.1 hE)
  by_cases hk1:p.1.kind=1
  ·as_aux_lemma=>
    have t1:(p.1.kind==1)=true:=by simpa using hk1
    obtain rfl:O=some (l.set i (p.1,{p.2 with deadline:=p.2.deadline-1}),i):=by rw[←HO.out];simp[spoilM,hE,hk1]
    clear hE hk1
    have hb:=HN7.out (by have:=eq_of_beq t1;omega)
    have c15:=J2.out.cell 15 (.int .i64 p.2.deadline) rfl
    have f15:=f0 15
    clear f0
    have w15:IntKind.i64.wrap (p.2.deadline-1)=p.2.deadline-1:=IntWalk.i64_in _ hb
    have BW:=Lib.hid (B2.out.grown (grownBy_set w2 q 15 (.int .i64 (p.2.deadline-1))) B2.out.size (fun k hk=>by injection hk with hk;omega))
    go_wp2_with (refine wpList_load_mid rfl 73 (.tmp 10) rfl q 0 rfl (stCells (p.1,{p.2 with deadline:=p.2.deadline-1})) _ (BoxN.range2 (show BoxN _ q 73 (stCells (p.1,{p.2 with deadline:=p.2.deadline-1})).toArray from J2.out.set 15 (.int .i64 (p.2.deadline-1)))) Tryz.underlying73 rfl (S2.out _) ?_)
    refine(CS.out _ BW.out (p.1,{p.2 with deadline:=p.2.deadline-1}) _ ⟨rfl,HOR.out.1,by obtain⟨a1,a2,a3,a4,a5,a6⟩:=HOR.out.2;exact⟨a1,a2,a3,hb,a5,a6⟩⟩).mono ?_
    rintro e w9 ⟨A,c,rfl,ho,hb9⟩
    go_wp2_with fail
    go_ret2
    exact spoilt_set BW.out ho hb9
  have t1:(p.1.kind==1)=false:=by simpa using hk1
  by_cases hk2:p.1.kind=2
  ·as_aux_lemma=>
    have t2:(p.1.kind==2)=true:=by simpa using hk2
    obtain rfl:O=some (l.set i (p.1,{p.2 with deadline:=p.2.deadline-1}),i):=by rw[←HO.out];simp[spoilM,hE,hk2]
    clear hE hk1 hk2
    have hb:=HN7.out (by have:=eq_of_beq t2;omega)
    have c15:=J2.out.cell 15 (.int .i64 p.2.deadline) rfl
    have f15:=f0 15
    clear f0
    have w15:IntKind.i64.wrap (p.2.deadline-1)=p.2.deadline-1:=IntWalk.i64_in _ hb
    have BW:=Lib.hid (B2.out.grown (grownBy_set w2 q 15 (.int .i64 (p.2.deadline-1))) B2.out.size (fun k hk=>by injection hk with hk;omega))
    go_wp2_with (refine wpList_load_mid rfl 73 (.tmp 10) rfl q 0 rfl (stCells (p.1,{p.2 with deadline:=p.2.deadline-1})) _ (BoxN.range2 (show BoxN _ q 73 (stCells (p.1,{p.2 with deadline:=p.2.deadline-1})).toArray from J2.out.set 15 (.int .i64 (p.2.deadline-1)))) Tryz.underlying73 rfl (S2.out _) ?_)
    refine(CS.out _ BW.out (p.1,{p.2 with deadline:=p.2.deadline-1}) _ ⟨rfl,HOR.out.1,by obtain⟨a1,a2,a3,a4,a5,a6⟩:=HOR.out.2;exact⟨a1,a2,a3,hb,a5,a6⟩⟩).mono ?_
    rintro e w9 ⟨A,c,rfl,ho,hb9⟩
    go_wp2_with fail
    go_ret2
    exact spoilt_set BW.out ho hb9
  have t2:(p.1.kind==2)=false:=by simpa using hk2
  by_cases hk3:p.1.kind=3
  ·as_aux_lemma=>
    have t3:(p.1.kind==3)=true:=by simpa using hk3
    obtain rfl:O=some (l.set i (p.1,{p.2 with deadline:=p.2.deadline-1}),i):=by rw[←HO.out];simp[spoilM,hE,hk3]
    clear hE hk1 hk2 hk3
    have hb:=HN7.out (by have:=eq_of_beq t3;omega)
    have c15:=J2.out.cell 15 (.int .i64 p.2.deadline) rfl
    have f15:=f0 15
    clear f0
    have w15:IntKind.i64.wrap (p.2.deadline-1)=p.2.deadline-1:=IntWalk.i64_in _ hb
    have BW:=Lib.hid (B2.out.grown (grownBy_set w2 q 15 (.int .i64 (p.2.deadline-1))) B2.out.size (fun k hk=>by injection hk with hk;omega))
    go_wp2_with (refine wpList_load_mid rfl 73 (.tmp 10) rfl q 0 rfl (stCells (p.1,{p.2 with deadline:=p.2.deadline-1})) _ (BoxN.range2 (show BoxN _ q 73 (stCells (p.1,{p.2 with deadline:=p.2.deadline-1})).toArray from J2.out.set 15 (.int .i64 (p.2.deadline-1)))) Tryz.underlying73 rfl (S2.out _) ?_)
    refine(CS.out _ BW.out (p.1,{p.2 with deadline:=p.2.deadline-1}) _ ⟨rfl,HOR.out.1,by obtain⟨a1,a2,a3,a4,a5,a6⟩:=HOR.out.2;exact⟨a1,a2,a3,hb,a5,a6⟩⟩).mono ?_
    rintro e w9 ⟨A,c,rfl,ho,hb9⟩
    go_wp2_with fail
    go_ret2
    exact spoilt_set BW.out ho hb9
  have t3:(p.1.kind==3)=false:=by simpa using hk3
  as_aux_lemma=>
   obtain rfl:O=none:=by rw[←HO.out];simp[spoilM,hE,hk1,hk2,hk3]
   clear hE hk1 hk2 hk3
   go_wp2_with fail
   go_ret2
   exact spoilt_none B2.out
 have hr:r=8∨r≠8:=by omega
 rcases hr with rfl|hr8
 ·clear h1 h2 HR hr1 hr2 hr3 hr4 hr5 hr6 hr7
  have f0:=J2.out.frozen
  have zq:=J2.out.lt
  cases TE
  case false=>
   as_aux_lemma=>
    have hE:p.2.err≠0:=by simpa using HTE.out
    obtain rfl:O=none:=by rw[←HO.out];simp[spoilM,issuedP,hE]
    clear hE
    go_wp2_with fail
    go_ret2
    exact spoilt_none B2.out
  have hE:p.2.err=0:=by simpa using HTE.out
  by_cases hk2:p.1.kind=2
  ·as_aux_lemma=>
    have t2:(p.1.kind==2)=true:=by simpa using hk2
    obtain rfl:O=some (putM l i p,i+1):=by rw[←HO.out];simp[spoilM,hE,hk2]
    clear hE hk2
    clear f0
    go_wp2_with (refine wpList_load_mid rfl 73 (.tmp 10) rfl q 0 rfl (stCells p) _ J2.out.range2 Tryz.underlying73 rfl (S2.out _) ?_)
    refine(CP.out _ B2.out p HOR.out).mono ?_
    rintro e w9 ⟨A,c,rfl,ho,hb9⟩
    go_wp2_with fail
    go_ret2
    exact spoilt_put B2.out ho hb9
  have t2:(p.1.kind==2)=false:=by simpa using hk2
  by_cases hk3:p.1.kind=3
  ·as_aux_lemma=>
    have t3:(p.1.kind==3)=true:=by simpa using hk3
    obtain rfl:O=some (putM l i p,i+1):=by rw[←HO.out];simp[spoilM,hE,hk3]
    clear hE hk2 hk3
    clear f0
    go_wp2_with (refine wpList_load_mid rfl 73 (.tmp 10) rfl q 0 rfl (stCells p) _ J2.out.range2 Tryz.underlying73 rfl (S2.out _) ?_)
    refine(CP.out _ B2.out p HOR.out).mono ?_
    rintro e w9 ⟨A,c,rfl,ho,hb9⟩
    go_wp2_with fail
    go_ret2
    exact spoilt_put B2.out ho hb9
  have t3:(p.1.kind==3)=false:=by simpa using hk3
  as_aux_lemma=>
   obtain rfl:O=none:=by rw[←HO.out];simp[spoilM,hE,hk2,hk3]
   clear hE hk2 hk3
   go_wp2_with fail
   go_ret2
   exact spoilt_none B2.out
 have hr:r=9∨r≠9:=by omega
 rcases hr with rfl|hr9
 ·clear h1 h2 HR hr1 hr2 hr3 hr4 hr5 hr6 hr7 hr8
  have f0:=J2.out.frozen
  have zq:=J2.out.lt
  cases TE
  case false=>
   as_aux_lemma=>
    have hE:p.2.err≠0:=by simpa using HTE.out
    obtain rfl:O=none:=by rw[←HO.out];simp[spoilM,issuedP,hE]
    clear hE
    go_wp2_with fail
    go_ret2
    exact spoilt_none B2.out
  have hE:p.2.err=0:=by simpa using HTE.out
  by_cases hk2:p.1.kind=2
  ·as_aux_lemma=>
    have t2:(p.1.kind==2)=true:=by simpa using hk2
    obtain⟨P,hP⟩:∃P:MOp×MRp,P=({p.1 with kind:=5,owner:=inc32 p.1.owner},noRp):=⟨_,rfl⟩
    obtain rfl:O=some (putM l i P,i+1):=by rw[←HO.out,hP];simp[spoilM,hE,hk2]
    clear hE hk2
    have w32:IntKind.u32.wrap (p.1.owner+1)=inc32 p.1.owner:=rfl
    have hi:U32 (inc32 p.1.owner):=by unfold inc32 U32;omega
    have c0:=J2.out.cell 0 (.int .i64 p.1.kind) rfl
    have c1:=J2.out.cell 1 (.int .u32 p.1.owner) rfl
    have z0:=f0 0
    have z1:=f0 1
    clear f0
    have S9:=Lib.hid (show(Tryz.prog.info? 49).map (·.size)=some (rpCells noRp).toArray.size by kernel_rfl)
    have O9:=Lib.hid (show(rpCells noRp).toArray.all (·.oneCell')=true by simp[rpCells,noRp,noTk,Value.oneCell'])
    obtain⟨h8,h9⟩:=box9 J2.out
    have J8:=Lib.hid h8
    have J9:=Lib.hid h9
    clear h8 h9
    have hgw:=grownBy_trans (grownBy_trans (grownBy_set w2 q 0 (.int .i64 5)) (grownBy_set _ q 1 (.int .u32 (inc32 p.1.owner)))) (grownBy_putAt (rpCells noRp) _ q 12)
    rw[←setCells_putAt] at hgw
    have BW:=Lib.hid (show Below w.heap.size w (((w2.setCell ⟨q,0,none⟩ (.int .i64 5)).setCell ⟨q,1,none⟩ (.int .u32 (inc32 p.1.owner))).setCells q 12 (rpCells noRp).toArray.toList) from B2.out.grown hgw B2.out.size (fun k hk=>by injection hk with hk;omega))
    replace J9:=Lib.hid (show BoxN (((w2.setCell ⟨q,0,none⟩ (.int .i64 5)).setCell ⟨q,1,none⟩ (.int .u32 (inc32 p.1.owner))).setCells q 12 (rpCells noRp).toArray.toList) q 73 (stCells P).toArray by rw[hP];exact J9.out)
    clear hgw
    have HP:=Lib.hid (show OpOk P.1∧RpOk P.2 by rw[hP];exact⟨by obtain⟨a1,a2,a3,a4,a5,a6,a7,a8,a9⟩:=HOR.out.1;exact⟨by simp[Bd],hi,a3,a4,a5,a6,a7,a8,a9⟩,by simp[RpOk,noRp,noTk,Bd,TkOk,U32,U64]⟩)
    clear hP HOR hi HTE HO
    go_wp2_with (first|(refine wpList_store_mid rfl 49 (.tmp 240) (.tmp 235) rfl q 12 (rpCells noRp).toArray (by first|(go_simp;done)|(go_simp;rfl)) (by first|(go_simp;done)|(go_simp;rfl)) J8.out S9.out O9.out ?_;generalize((w2.setCell ⟨q,0,none⟩ (.int .i64 5)).setCell ⟨q,1,none⟩ (.int .u32 (inc32 p.1.owner))).setCells q 12 (rpCells noRp).toArray.toList=w3 at BW J9⊢;have HR:=Lib.hid J9.out.range2;clear J8 c0 c1 z0 z1)|refine wpList_load_mid rfl 73 (.tmp 10) rfl q 0 rfl (stCells P) _ HR.out Tryz.underlying73 rfl (S2.out _) ?_)
    refine(CP.out _ BW.out P HP.out).mono ?_
    rintro e w9 ⟨A,c,rfl,ho,hb9⟩
    go_wp2_with fail
    go_ret2
    exact spoilt_put BW.out ho hb9
  have t2:(p.1.kind==2)=false:=by simpa using hk2
  as_aux_lemma=>
   obtain rfl:O=none:=by rw[←HO.out];simp[spoilM,hE,hk2]
   clear hE hk2
   go_wp2_with fail
   go_ret2
   exact spoilt_none B2.out
 have hr:r=10∨r≠10:=by omega
 rcases hr with rfl|hr10
 ·clear h1 h2 HR hr1 hr2 hr3 hr4 hr5 hr6 hr7 hr8 hr9
  have f0:=J2.out.frozen
  have zq:=J2.out.lt
  cases TI
  case false=>
   as_aux_lemma=>
    obtain rfl:O=none:=by rw[←HO.out];simp[spoilM,show¬issuedP p.1 p.2 by simpa using HTI.out]
    go_wp2_with fail
    go_ret2
    exact spoilt_none B2.out
  have hp:=of_decide_eq_true HTI.out
  as_aux_lemma=>
   obtain rfl:O=some (putM l i ({noOp with kind:=9,tk:={p.2.tk with serial:=inc64 p.2.tk.serial}},noRp),i+1):=by rw[←HO.out];simp[spoilM,hp]
   clear hp f0
   have zg:=G2.out.lt
   have fg:=G2.out.frozen 9
   have cg:=G2.out.cell 9 (.int .u64 p.2.tk.serial) rfl
   have w64:IntKind.u64.wrap (p.2.tk.serial+1)=inc64 p.2.tk.serial:=rfl
   have BW:=Lib.hid (B2.out.grown (grownBy_set w2 g 9 (.int .u64 (inc64 p.2.tk.serial))) B2.out.size (fun k hk=>by injection hk with hk;omega))
   go_wp2_with (refine wpList_load_mid rfl 73 (.tmp 14) rfl g 0 rfl (stCells ({noOp with kind:=9,tk:={p.2.tk with serial:=inc64 p.2.tk.serial}},noRp)) _ (BoxN.range2 (show BoxN _ g 73 (stCells ({noOp with kind:=9,tk:={p.2.tk with serial:=inc64 p.2.tk.serial}},noRp)).toArray from G2.out.set 9 (.int .u64 (inc64 p.2.tk.serial)))) Tryz.underlying73 rfl (S2.out _) ?_)
   refine(CP.out _ BW.out ({noOp with kind:=9,tk:={p.2.tk with serial:=inc64 p.2.tk.serial}},noRp) ⟨by obtain⟨b1,b2,b3,b4⟩:=HOR.out.2.2.2.2.2.1;have hi:U64 (inc64 p.2.tk.serial):=(by unfold inc64 U64;omega);simp[OpOk,noOp,Bd,U32];exact⟨b1,b2,hi,b4⟩,by simp[RpOk,noRp,noTk,Bd,TkOk,U32,U64]⟩).mono ?_
   rintro e w9 ⟨A,c,rfl,ho,hb9⟩
   go_wp2_with fail
   go_ret2
   exact spoilt_put BW.out ho hb9
 have hr:r=11∨r≠11:=by omega
 rcases hr with rfl|hr11
 ·clear h1 h2 HR hr1 hr2 hr3 hr4 hr5 hr6 hr7 hr8 hr9 hr10
  have f0:=J2.out.frozen
  have zq:=J2.out.lt
  cases TE
  case false=>
   as_aux_lemma=>
    have hE:p.2.err≠0:=by simpa using HTE.out
    obtain rfl:O=none:=by rw[←HO.out];simp[spoilM,issuedP,hE]
    clear hE
    go_wp2_with fail
    go_ret2
    exact spoilt_none B2.out
  have hE:p.2.err=0:=by simpa using HTE.out
  by_cases hk8:p.1.kind=8
  ·as_aux_lemma=>
    have t8:(p.1.kind==8)=true:=by simpa using hk8
    obtain rfl:O=some (putM l i p,i+1):=by rw[←HO.out];simp[spoilM,hE,hk8]
    clear hE hk8
    clear f0
    go_wp2_with (refine wpList_load_mid rfl 73 (.tmp 10) rfl q 0 rfl (stCells p) _ J2.out.range2 Tryz.underlying73 rfl (S2.out _) ?_)
    refine(CP.out _ B2.out p HOR.out).mono ?_
    rintro e w9 ⟨A,c,rfl,ho,hb9⟩
    go_wp2_with fail
    go_ret2
    exact spoilt_put B2.out ho hb9
  have t8:(p.1.kind==8)=false:=by simpa using hk8
  as_aux_lemma=>
   obtain rfl:O=none:=by rw[←HO.out];simp[spoilM,hE,hk8]
   clear hE hk8
   go_wp2_with fail
   go_ret2
   exact spoilt_none B2.out
 have hr:r=12∨r≠12:=by omega
 rcases hr with rfl|hr12
 ·clear h1 h2 HR hr1 hr2 hr3 hr4 hr5 hr6 hr7 hr8 hr9 hr10 hr11
  have f0:=J2.out.frozen
  have zq:=J2.out.lt
  cases TI
  case false=>
   as_aux_lemma=>
    obtain rfl:O=none:=by rw[←HO.out];simp[spoilM,show¬issuedP p.1 p.2 by simpa using HTI.out]
    go_wp2_with fail
    go_ret2
    exact spoilt_none B2.out
  have hp:=of_decide_eq_true HTI.out
  as_aux_lemma=>
   obtain rfl:O=some (l.set i (p.1,{p.2 with tk:={p.2.tk with epoch:=inc64 p.2.tk.epoch}}),i):=by rw[←HO.out];simp[spoilM,hp]
   clear hp
   have w64:IntKind.u64.wrap (p.2.tk.epoch+1)=inc64 p.2.tk.epoch:=rfl
   have hi:U64 (inc64 p.2.tk.epoch):=by unfold inc64 U64;omega
   have c19:=J2.out.cell 19 (.int .u64 p.2.tk.epoch) rfl
   have f19:=f0 19
   clear f0
   have BW:=Lib.hid (B2.out.grown (grownBy_set w2 q 19 (.int .u64 (inc64 p.2.tk.epoch))) B2.out.size (fun k hk=>by injection hk with hk;omega))
   go_wp2_with (refine wpList_load_mid rfl 73 (.tmp 10) rfl q 0 rfl (stCells (p.1,{p.2 with tk:={p.2.tk with epoch:=inc64 p.2.tk.epoch}})) _ (BoxN.range2 (show BoxN _ q 73 (stCells (p.1,{p.2 with tk:={p.2.tk with epoch:=inc64 p.2.tk.epoch}})).toArray from J2.out.set 19 (.int .u64 (inc64 p.2.tk.epoch)))) Tryz.underlying73 rfl (S2.out _) ?_)
   refine(CS.out _ BW.out (p.1,{p.2 with tk:={p.2.tk with epoch:=inc64 p.2.tk.epoch}}) _ ⟨rfl,HOR.out.1,by obtain⟨a1,a2,a3,a4,a5,a6⟩:=HOR.out.2;exact⟨a1,a2,a3,a4,⟨a5.1,a5.2.1,a5.2.2.1,hi⟩,a6⟩⟩).mono ?_
   rintro e w9 ⟨A,c,rfl,ho,hb9⟩
   go_wp2_with fail
   go_ret2
   exact spoilt_set BW.out ho hb9
 obtain rfl:r=13:=by omega
 clear h1 h2 HR hr1 hr2 hr3 hr4 hr5 hr6 hr7 hr8 hr9 hr10 hr11 hr12
 have f0:=J2.out.frozen
 have zq:=J2.out.lt
 cases TE
 case false=>
  as_aux_lemma=>
   have hE:p.2.err≠0:=by simpa using HTE.out
   obtain rfl:O=none:=by rw[←HO.out];simp[spoilM,issuedP,hE]
   clear hE
   go_wp2_with fail
   go_ret2
   exact spoilt_none B2.out
 have hE:p.2.err=0:=by simpa using HTE.out
 have HN13:=Lib.hid HN.out.2.2.2
 by_cases hk:p.1.kind=10
 case neg=>
  as_aux_lemma=>
   have t1:(p.1.kind==10)=false:=by simpa using hk
   obtain rfl:O=none:=by rw[←HO.out];simp[spoilM,hE,hk]
   clear hE hk f0
   go_wp2_with fail
   go_ret2
   exact spoilt_none B2.out
 have t1:(p.1.kind==10)=true:=by simpa using hk
 have c4:=J2.out.cell 4 (.int .i64 p.1.section_) rfl
 have k3:=K2.out.cell 3 (.slice V x.secs.length vc) rfl
 by_cases hs:0≤p.1.section_
 case neg=>
  as_aux_lemma=>
   have t2:decide (0≤p.1.section_)=false:=by simpa using hs
   obtain rfl:O=none:=by rw[←HO.out];simp[spoilM,hE,hk,hs]
   clear hE hk hs f0
   go_wp2_with fail
   go_ret2
   exact spoilt_none B2.out
 have t2:decide (0≤p.1.section_)=true:=by simpa using hs
 by_cases hs2:p.1.section_<(x.secs.length:Int)
 case neg=>
  as_aux_lemma=>
   have t3:decide (p.1.section_<(x.secs.length:Int))=false:=by simpa using hs2
   obtain rfl:O=none:=by rw[←HO.out];simp[spoilM,hE,hk,hs,hs2]
   clear hE hk hs hs2 f0
   go_wp2_with fail
   go_ret2
   exact spoilt_none B2.out
 have t3:decide (p.1.section_<(x.secs.length:Int))=true:=by simpa using hs2
 as_aux_lemma=>
  obtain⟨k,hks⟩:∃k:Nat,p.1.section_=(k:Int):=⟨p.1.section_.toNat,by omega⟩
  have hkl:k<x.secs.length:=by omega
  have hb:=HN13.out hs hs2
  rw[hks,Int.toNat_natCast] at hb
  obtain⟨bs,os,A2,c2,rfl,hbs,-,-,hq3,-⟩:=(HV.out.up B2.out).atS hkl
  rw[←queue_at hkl] at hq3
  obtain rfl:O=some (l.set i (p.1,{p.2 with place:=queueOf x k+1}),i):=by rw[←HO.out];simp only[spoilM,hE,hk,hs,hs2];simp[hks]
  rw[hks] at c4 t2 t3
  clear hE hk hs hs2
  have c20:=J2.out.cell 20 (.int .i64 p.2.place) rfl
  have f20:=f0 20
  clear f0
  have w13:IntKind.i64.wrap (queueOf x k+1)=queueOf x k+1:=IntWalk.i64_in _ hb
  have BW:=Lib.hid (B2.out.grown (grownBy_set w2 q 20 (.int .i64 (queueOf x k+1))) B2.out.size (fun k hk=>by injection hk with hk;omega))
  go_wp2_with (refine wpList_load_mid rfl 73 (.tmp 10) rfl q 0 rfl (stCells (p.1,{p.2 with place:=queueOf x k+1})) _ (BoxN.range2 (show BoxN _ q 73 (stCells (p.1,{p.2 with place:=queueOf x k+1})).toArray from J2.out.set 20 (.int .i64 (queueOf x k+1)))) Tryz.underlying73 rfl (S2.out _) ?_)
  refine(CS.out _ BW.out (p.1,{p.2 with place:=queueOf x k+1}) _ ⟨rfl,HOR.out.1,by obtain⟨a1,a2,a3,a4,a5,a6⟩:=HOR.out.2;exact⟨a1,a2,a3,a4,a5,hb⟩⟩).mono ?_
  rintro e w9 ⟨A,c,rfl,ho,hb9⟩
  go_wp2_with fail
  go_ret2
  exact spoilt_set BW.out ho hb9
end Go.Proofs.YtlckmjiioohcmaaGreatDoor
