/-
  The data of layer 23 (model): what a state reads as; walks of slices.IndexFunc and ContainsFunc at seats, of model.Check's closure; a set of numbers that the call makes. Conditions: as each theorem says.
  Walk of model.Check. Conditions: as the theorem says.
  Walk of model.New. Conditions: as the theorem says.
  Walks of slices.Clone at seats and at uint32, of model.copied. Conditions: as each theorem says.
  The office of layer 23 in memory; walks of until, change. Conditions: as each theorem says.
-/
import Derived.Test.YtlckmjiioohcmaaGreatDoorSxC
import Derived.Test.YtlckmjiioohcmaaGreatDoorVnI
import Derived.Maps.OwnOps
import Derived.Maps.Views
import Derived.Deep.LoopGhost
import Derived.BigRegion
import Derived.Deep.CutRange
namespace Go.Proofs.YtlckmjiioohcmaaGreatDoor
open Go.RowKit
theorem Sl.atX {w:World} {A:Option Addr} {n c k:Nat} {xs:List Sx} (h:Sl sxR w (.slice A n c) xs) (hk:k<xs.length):
 ∃b off,A=some ⟨b,off,.none⟩∧b<w.heap.size∧w.cell? ⟨b,off+k*5,.none⟩=some (.int .i64 xs[k].state)∧w.cell? ⟨b,off+k*5+1,.none⟩=some (.int .u32 xs[k].owner)∧w.cell? ⟨b,off+k*5+2,.none⟩=some (.int .i64 xs[k].till)∧
  w.cell? ⟨b,off+k*5+3,.none⟩=some (.int .u64 xs[k].serial)∧w.cell? ⟨b,off+k*5+4,.none⟩=some (.int .u64 xs[k].epoch)∧SxOk xs[k]:=by
 obtain⟨b,off,cs,rfl,hb,⟨rfl,hx⟩,h2⟩:=h.at_ hk
 exact⟨b,off,rfl,hb,h2 0 _ rfl,h2 1 _ rfl,h2 2 _ rfl,h2 3 _ rfl,h2 4 _ rfl,hx⟩
def u32R:Rep Int where
 size:=1
 is _ cs x:=cs=[.int .u32 x]∧U32 x
 len h:=by rw[h.1];rfl
 one h:=by rw[h.1];simp[Value.oneCell']
 up _ h:=h
theorem u32R_flat:u32R.flat:=fun _ _ _ _ h=>h
theorem Sl.atU {w:World} {A:Option Addr} {n c k:Nat} {xs:List Int} (h:Sl u32R w (.slice A n c) xs) (hk:k<xs.length):
 ∃b off,A=some ⟨b,off,.none⟩∧b<w.heap.size∧w.cell? ⟨b,off+k,.none⟩=some (.int .u32 xs[k])∧U32 xs[k]:=by
 obtain⟨b,off,cs,rfl,hb,⟨rfl,hx⟩,h2⟩:=h.at_ hk
 have h3:=h2 0 _ rfl
 simp only[u32R,Nat.mul_one,Nat.add_zero] at h3
 exact⟨b,off,rfl,hb,h3,hx⟩
def quR:Rep (List Int) where
 size:=1
 is w cs l:=∃A c,cs=[.slice A l.length c]∧Sl u32R w (.slice A l.length c) l
 len h:=by obtain⟨_,_,rfl,_⟩:=h;rfl
 one h:=by obtain⟨_,_,rfl,_⟩:=h;simp[Value.oneCell']
 up hb h:=by obtain⟨A,c,h1,h2⟩:=h;exact⟨A,c,h1,h2.up hb⟩
theorem Sl.atQ {w:World} {A:Option Addr} {n c k:Nat} {xs:List (List Int)} (h:Sl quR w (.slice A n c) xs) (hk:k<xs.length):
 ∃b off A' c',A=some ⟨b,off,.none⟩∧b<w.heap.size∧w.cell? ⟨b,off+k,.none⟩=some (.slice A' xs[k].length c')∧Sl u32R w (.slice A' xs[k].length c') xs[k]:=by
 obtain⟨b,off,cs,rfl,hb,⟨A',c',rfl,hx⟩,h2⟩:=h.at_ hk
 have h3:=h2 0 _ rfl
 simp only[quR,Nat.mul_one,Nat.add_zero] at h3
 exact⟨b,off,A',c',rfl,hb,h3,hx⟩
structure Md where
 ve:Ve
 now:Int
 seats:List Sx
 qs:List (List Int)
deriving DecidableEq
structure MFrm where
 V:Option Addr
 vc:Nat
 A:Option Addr
 ac:Nat
 Q:Option Addr
 qc:Nat
def mdCells (F:MFrm) (s:Md):List Value:=[.int .i64 s.ve.shards,.int .i64 s.ve.ttl,.int .i64 s.ve.session,.slice F.V s.ve.secs.length F.vc,.int .i64 s.now,.slice F.A s.seats.length F.ac,.slice F.Q s.qs.length F.qc]
def mdV (F:MFrm) (s:Md):Value:=.agg #[.int .i64 s.ve.shards,.int .i64 s.ve.ttl,.int .i64 s.ve.session,.slice F.V s.ve.secs.length F.vc,.int .i64 s.now,.slice F.A s.seats.length F.ac,.slice F.Q s.qs.length F.qc]
section
variable {ms:List Value} {F:MFrm} {s:Md} {r:MRp}
theorem md_s (h:ms=mdCells F s):Hid ((Tryz.prog.info? 31).map (·.size)=some ms.length):=Lib.hid (by rw[h];kernel_rfl)
theorem md_S (h:ms=mdCells F s):Hid ((Tryz.prog.info? 31).map (·.size)=some ms.toArray.size):=Lib.hid (by rw[h];kernel_rfl)
theorem md_o (h:ms=mdCells F s):Hid (ms.toArray.all (·.oneCell')=true):=Lib.hid (by rw[h];simp[mdCells,Value.oneCell'])
theorem md_l (h:ms=mdCells F s):Hid (ms.toArray.size=7):=Lib.hid (by rw[h];rfl)
theorem rp_s (h:ms=rpCells r):Hid ((Tryz.prog.info? 49).map (·.size)=some ms.length):=Lib.hid (by rw[h];kernel_rfl)
theorem rp_S (h:ms=rpCells r):Hid ((Tryz.prog.info? 49).map (·.size)=some ms.toArray.size):=Lib.hid (by rw[h];kernel_rfl)
theorem rp_o (h:ms=rpCells r):Hid (ms.toArray.all (·.oneCell')=true):=Lib.hid (by rw[h];simp[rpCells,Value.oneCell'])
end
structure IsMd (W:World) (F:MFrm) (s:Md):Prop where
 secs:Sl secR W (.slice F.V s.ve.secs.length F.vc) s.ve.secs
 seats:Sl sxR W (.slice F.A s.seats.length F.ac) s.seats
 qs:Sl quR W (.slice F.Q s.qs.length F.qc) s.qs
 shards:Bd s.ve.shards
 ttl:Bd s.ve.ttl
 session:Bd s.ve.session
 now:Bd s.now
theorem IsMd.up {W W':World} {F:MFrm} {s:Md} (h:IsMd W F s) (hb:Below W.heap.size W W'):IsMd W' F s:=⟨h.secs.up hb,h.seats.up hb,h.qs.up hb,h.shards,h.ttl,h.session,h.now⟩
theorem IsMd.ve {W:World} {F:MFrm} {s:Md} (h:IsMd W F s):IsVe W (.agg #[.int .i64 s.ve.shards,.int .i64 s.ve.ttl,.int .i64 s.ve.session,.slice F.V s.ve.secs.length F.vc]) s.ve:=⟨_,_,rfl,h.secs,h.shards,h.ttl,h.session⟩
set_option maxHeartbeats 400000 in
theorem indexFuncX_any (p:Sx→Bool) (g:Nat) (lb:Array Value) (eg:∀args w,(callFunc g args).run Tryz.prog w=.ok (.enter g args) w) (v:Value) (xs:List (Sx)) (w:World) (hs:Sl sxR w v xs)
 (hp:∀W x,Below w.heap.size w W→x∈xs→SxOk x→Calls Tryz.prog g (#[sxV x]++lb) W fun e w'=>e=.returned (.bool (p x))∧Below W.heap.size W w'):
 Calls Tryz.prog 91 #[v,.func (.func g) #[] lb] w fun e w'=>e=.returned (.int .i64 (idxOf p xs))∧Below w.heap.size w w':=by
 obtain⟨A,c,rfl,_,hm,hs⟩:=hs.open
 have hlen:xs.length≤9223372036854775807:=by omega
 go_enter Tryz.func91,Tryz.ntmps91
 go_wp2
 go_loopw [8] (fun i wr=> ∃k:Nat,k≤xs.length∧i=.int .i64 k∧Below w.heap.size w wr∧Hid (∀j,(hj:j<k)→(hj':j<xs.length)→p xs[j]=false)) (fun i _=>xs.length-(intOf i).toNat)
 case atStart=>exact⟨0,by omega,rfl,Below.refl _ _,fun j hj=>by omega⟩
 case round=>
  obtain⟨k,hk,rfl,hb,hall⟩:=hrel
  by_cases hlt:k<xs.length
  ·obtain⟨b,off,rfl,hbl,hc0,hc1,hc2,hc3,hc4,hin⟩:=(hs.up hb).atX hlt
   have hcall:=hp wr xs[k] hb (List.getElem_mem hlt) hin
   unfold sxV at hcall
   clear hin
   have HB:=Lib.hid hb
   clear hb hs
   cases hq:p xs[k] with
   |true=>
    rw[hq] at hcall
    have HQ:=Lib.hid hq
    have C:=Lib.hid hcall
    clear hq hcall hp
    go_wp2_with (refine C.out.mono ?_;rintro e w' ⟨rfl,hb1⟩)
    go_ret
    exact⟨ret_int (idxOf_hit hlt HQ.out fun j hj=>hall.out j hj (by omega)).symm,HB.out.trans (hb1.mono HB.out.size)⟩
   |false=>
    rw[hq] at hcall
    have HQ:=Lib.hid hq
    have C:=Lib.hid hcall
    clear hq hcall hp
    go_wp2_with (refine C.out.mono ?_;rintro e w' ⟨rfl,hb1⟩)
    go_roundw
    case rel=>
     refine⟨k+1,by omega,by go_num,HB.out.trans (hb1.mono HB.out.size),fun j hj hj'=> ?_⟩
     by_cases e:j=k
     ·subst e;exact HQ.out
     ·exact hall.out j (by omega) hj'
    case measure=>simp[intOf];omega
  ·have HB:=Lib.hid hb
   clear hb hs hp
   go_wp2
   go_ret
   refine⟨ret_int (idxOf_miss fun x hx=> ?_).symm,HB.out⟩
   obtain⟨j,hj,rfl⟩:=List.getElem_of_mem hx
   exact hall.out j (by omega) hj
set_option maxHeartbeats 400000 in
theorem containsFuncX_any (p:Sx→Bool) (g:Nat) (lb:Array Value) (eg:∀args w,(callFunc g args).run Tryz.prog w=.ok (.enter g args) w) (v:Value) (xs:List (Sx)) (w:World) (hs:Sl sxR w v xs)
 (hp:∀W x,Below w.heap.size w W→x∈xs→SxOk x→Calls Tryz.prog g (#[sxV x]++lb) W fun e w'=>e=.returned (.bool (p x))∧Below W.heap.size W w'):
 Calls Tryz.prog 58 #[v,.func (.func g) #[] lb] w fun e w'=>e=.returned (.bool (xs.any p))∧Below w.heap.size w w':=by
 have C:=Lib.hid (indexFuncX_any p g lb eg v xs w hs hp)
 clear hp eg hs
 have h1:=Lib.hid (idxOf_any (p:=p) (xs:=xs))
 generalize idxOf p xs=r at C h1
 go_enter Tryz.func58,Tryz.ntmps58
 go_wp2_with (go_at_call 91;refine C.out.mono ?_;rintro e w' ⟨rfl,hb1⟩)
 go_ret
 exact⟨ret_bool h1.out,hb1⟩
set_option maxHeartbeats 1000000 in
theorem mcheck1_any (x:Sx) (w:World):Calls Tryz.prog 59 #[sxV x] w fun e w'=>e=.returned (.bool (sxCheck x !=0))∧Below w.heap.size w w':=by
 have C:=Lib.hid (sxCheck_any x)
 unfold sxV at C⊢
 generalize sxCheck x=E at C⊢
 obtain⟨st,ow,ti,se,ep⟩:=x
 simp only at C⊢
 go_enter Tryz.func59,Tryz.ntmps59
 go_wp2_with fail
 refine(C.out _).mono ?_
 rintro e w1 ⟨rfl,hb1⟩
 have hB:=Lib.hid (bstep (ba w _) hb1)
 go_wp2_with fail
 go_ret
 exact⟨rfl,hB.out⟩
open Go.Maps in
def MapS (P:Program) (k e:TypeId) (w:World) (b n:Nat) (S:List Int):Prop:=
 ∃D:DataW Unit,IsMap D∧w.ownsMap P k (plainElem P e) b n D∧∀x,U32 x→D.atKey (.int .u32 x) (.lit (.bool false))=.lit (.bool (S.contains x))
theorem wf_u32 {x:Int} (h:U32 x):(Lit.int .u32 x).wf=true:=WalkArith.wf_u32 h
theorem MapS.new (P:Program) (k e:TypeId) (w:World):MapS P k e (w.alloc (.map #[] 0)) w.heap.size 0 []:=
 ⟨.map [],⟨[],rfl⟩,World.ownsMap_made _ _ _ _,fun _ _=>rfl⟩
theorem MapS.kept {P:Program} {k e:TypeId} {w w':World} {b n:Nat} {S:List Int} {row:Option Nat} (h:MapS P k e w b n S) (hg:w.grownBy w' row) (hne:row≠some b):MapS P k e w' b n S:=by
 obtain⟨D,h1,h2,h3⟩:=h
 exact⟨D,h1,h2.kept hg (Ne.symm hne),h3⟩
theorem MapS.lt {P:Program} {k e:TypeId} {w:World} {b n:Nat} {S:List Int} (h:MapS P k e w b n S):b<w.heap.size:=by
 obtain⟨D,h1,h2,h3⟩:=h
 exact h2.lt
section
open Go.Maps
theorem plainElem_bool_inv {H:Type} {P:Program} {e:TypeId} (he:P.underlying e=some .bool) {v:Value} {z:DataW H×List MemPlace} (h:plainElem P e v=some z):∃a,v=.bool a∧z=(.lit (.bool a),[]):=by
 unfold plainElem at h
 rw[he] at h
 cases v<;>simp at h
 subst h
 exact⟨_,rfl,rfl⟩
theorem wpList_lookup_mapS {P:Program} (w:World) {ops:Array Oper} {rest:List Oper} {o:Oper} {a:Act} {Q:Exit→Act→World→Prop}
 (hg:o.guard=none) (m x:Operand) (t:TypeId) (hop:o.op=Op.lookup t m x false) (k e:TypeId) (K:Keyed P k) (hk:P.underlying k=some (.int .u32)) (ht:P.underlying t=some (.map k e)) (he:P.underlying e=some .bool)
 (hz:(zeroValue e).run P w=.ok (.bool false) w) (b n:Nat) (S:List Int) (hm:a.eval m=.map (some b)) (hown:MapS P k e w b n S) (key:Int) (hx:a.eval x=.int .u32 key) (hb:U32 key)
 (hK:wpList P ops Q rest (a.put o.dst (.bool (S.contains key))) w):wpList P ops Q (o::rest) a w:=by
 obtain⟨D,h1,h2,h3⟩:=hown
 obtain⟨v,ps,hrun,hv⟩:=h2.lookup K ht hz (plainElem_bool he false) (keyOf_int_mk hk (wf_u32 hb))
 obtain⟨c,rfl,hc⟩:=plainElem_bool_inv he hv
 simp only[Prod.mk.injEq] at hc
 obtain⟨hc,_⟩:=hc
 rw[h3 key hb] at hc
 injection hc with hc
 injection hc with hc
 refine wpList_plain hg fun K' hK'=> ?_
 unfold Oper.wp
 simp[execOp,hop,hm,hx,hrun,Result.andThen]
 subst hc
 exact hK' _ _ hK
theorem wpList_update_mapS {P:Program} (w:World) {ops:Array Oper} {rest:List Oper} {o:Oper} {a:Act} {Q:Exit→Act→World→Prop}
 (hg:o.guard=none) (m x v:Operand) (t:TypeId) (hop:o.op=Op.mapUpdate t m x v) (k e:TypeId) (K:Keyed P k) (hk:P.underlying k=some (.int .u32)) (ht:P.underlying t=some (.map k e)) (he:P.underlying e=some .bool)
 (b n:Nat) (S:List Int) (hm:a.eval m=.map (some b)) (hown:MapS P k e w b n S) (hn:n<1000000) (key:Int) (hx:a.eval x=.int .u32 key) (hv:a.eval v=.bool true) (hb:U32 key)
 (hK:∀w',MapS P k e w' b (n+1) (S++[key])→w.grownBy w' (some b)→wpList P ops Q rest (a.put o.dst undef) w'):wpList P ops Q (o::rest) a w:=by
 obtain⟨D,h1,h2,h3⟩:=hown
 refine wpList_mapUpdate_own w hg m x v t hop k e K ht _ b n D hm h2 (by unfold maxLen;omega) _ _ _ hx hv (keyOf_int_mk hk (wf_u32 hb)) _ [] (plainElem_bool he true) fun w' h4 h5=>hK w' ⟨_,h1.put _ _,h4,fun y hy=> ?_⟩ h5
 by_cases e:y=key
 ·subst e
  rw[atKey_put_same h1 (by first|trivial|(unfold WideAt.IsKeyLit;trivial)|simp[WideAt.IsKeyLit])]
  simp
 ·rw[atKey_put_other (by intro h;injection h with _ h;exact e h),h3 y hy]
  simp[e]
end
end Go.Proofs.YtlckmjiioohcmaaGreatDoor
namespace Go.Proofs.YtlckmjiioohcmaaGreatDoor
open Go.RowKit
def twB (S:List Int):List Int→Bool
 |[]=>false
 |x::l=>S.contains x||twB (S++[x]) l
def qsE:List (List Int)→List Sec→Int
 |l::ls,s::ss=>if s.queue<(l.length:Int) then 3 else if twB [] l then 8 else qsE ls ss
 |_,_=>0
def checkM (s:Md):Int:=
 if(seatsV s.ve).2≠0 then(seatsV s.ve).2 else if s.now<0 then 7 else if(s.seats.length:Int)≠(seatsV s.ve).1 then 6 else if s.qs.length≠s.ve.secs.length then 6 else
  if s.seats.any (fun x=>sxCheck x !=0) then 6 else qsE s.qs s.ve.secs
theorem twB_hit {l:List Int} {j:Nat} (hj:j<l.length) (h:(l.take j).contains l[j]=true):twB [] l=true:=by
 have:∀(l S:List Int) (j:Nat) (hj:j<l.length),(S++l.take j).contains l[j]=true→twB S l=true:=by
  intro l
  induction l with
  |nil=>intro S j hj;simp at hj
  |cons x l ih=>
   intro S j hj h
   unfold twB
   cases j with
   |zero=>simp at h;simp[h]
   |succ j=>
    have:=ih (S++[x]) j (by simpa using hj) (by simpa[List.append_assoc] using h)
    simp[this]
 exact this l [] j hj (by simpa using h)
theorem twB_miss {l:List Int} (h:∀j,(hj:j<l.length)→(l.take j).contains l[j]=false):twB [] l=false:=by
 have:∀(l S:List Int),(∀j,(hj:j<l.length)→(S++l.take j).contains l[j]=false)→twB S l=false:=by
  intro l
  induction l with
  |nil=>intro S _;rfl
  |cons x l ih=>
   intro S h
   unfold twB
   rw[ih (S++[x]) fun j hj=>by
    have:=h (j+1) (by simpa using hj)
    simpa[List.append_assoc] using this]
   have:=h 0 (by simp)
   simpa using this
 exact this l [] fun j hj=>by simpa using h j hj
open Go.Maps in
theorem keyU:Keyed Tryz.prog 41:=int_keyed Tryz.underlying41
theorem zeroB (w:World):(zeroValue 4).run Tryz.prog w=.ok (.bool false) w:=by kernel_rfl
open Go.Maps in
theorem wpList_lookup_mapSc {P:Program} (w:World) {ops:Array Oper} {rest:List Oper} {o:Oper} {a:Act} {Q:Exit→Act→World→Prop}
 (hg:o.guard=none) (m x:Operand) (t:TypeId) (hop:o.op=Op.lookup t m x false) (k e:TypeId) (K:Keyed P k) (hk:P.underlying k=some (.int .u32)) (ht:P.underlying t=some (.map k e)) (he:P.underlying e=some .bool)
 (hz:(zeroValue e).run P w=.ok (.bool false) w) (b n:Nat) (S:List Int) (hm:a.eval m=.map (some b)) (hown:MapS P k e w b n S) (key:Int) (hx:a.eval x=.int .u32 key) (hb:U32 key) (c:Bool) (hc:S.contains key=c)
 (hK:wpList P ops Q rest (a.put o.dst (.bool c)) w):wpList P ops Q (o::rest) a w:=
 wpList_lookup_mapS w hg m x t hop k e K hk ht he hz b n S hm hown key hx hb (by rw[hc];exact hK)
theorem qsE_drop {qs:List (List Int)} {secs:List Sec} {k:Nat} (h1:k<qs.length) (h2:k<secs.length):
 qsE (qs.drop k) (secs.drop k)=if secs[k].queue<(qs[k].length:Int) then 3 else if twB [] qs[k] then 8 else qsE (qs.drop (k+1)) (secs.drop (k+1)):=by
 rw[List.drop_eq_getElem_cons h1,List.drop_eq_getElem_cons h2]
 rfl
set_option maxHeartbeats 4000000 in
set_option maxRecDepth 20000 in
theorem mcheck_any (F:MFrm) (s:Md) (w:World) (hs:IsMd w F s) (hn:s.qs.length≤1000∧∀l,l∈s.qs→l.length≤1000):
 Calls Tryz.prog 31 #[mdV F s] w fun e w'=>e=.returned (.int .i64 (checkM s))∧Below w.heap.size w w':=by
 have C1:=Lib.hid (fun W (hb:Below w.heap.size w W)=>seats_any _ s.ve W (hs.up hb).ve)
 have eg:=enters_fn Tryz.func59 (by kernel_rfl) rfl
 have C2:=Lib.hid (fun W (hb:Below w.heap.size w W)=>containsFuncX_any (fun x=>sxCheck x !=0) 59 #[] eg _ s.seats W (hs.seats.up hb) fun W' x _ _ _=>mcheck1_any x W')
 have hT:=Lib.hid (show checkM s=if(seatsV s.ve).2≠0 then(seatsV s.ve).2 else if s.now<0 then 7 else if(s.seats.length:Int)≠(seatsV s.ve).1 then 6 else if s.qs.length≠s.ve.secs.length then 6 else
  if s.seats.any (fun x=>sxCheck x !=0) then 6 else qsE s.qs s.ve.secs from rfl)
 have HS:=Lib.hid hs
 have HN:=Lib.hid hn
 clear hn
 obtain⟨V,vc,A,ac,Q,qc⟩:=F
 obtain⟨⟨shards,ttl,session,secs⟩,now,seats,qs⟩:=s
 unfold mdV
 simp only at C1 C2 hT⊢
 generalize checkM ⟨⟨shards,ttl,session,secs⟩,now,seats,qs⟩=M at hT⊢
 generalize seatsV ⟨shards,ttl,session,secs⟩=E at C1 hT
 obtain⟨E1,E2⟩:=E
 generalize seats.any (fun x=>sxCheck x !=0)=B at C2 hT
 simp only at C1 hT
 have K0:=Lib.hid (BoxN.new w 31 #[.int .i64 shards,.int .i64 ttl,.int .i64 session,.slice V secs.length vc,.int .i64 now,.slice A seats.length ac,.slice Q qs.length qc])
 have HB0:=Lib.hid (ba w (.cells #[.int .i64 shards,.int .i64 ttl,.int .i64 session,.slice V secs.length vc,.int .i64 now,.slice A seats.length ac,.slice Q qs.length qc] 31))
 clear hs
 by_cases h:E2=0
 case neg=>
  obtain rfl:M=E2:=by rw[hT.out,if_pos h]
  have t:(M !=0)=true:=by simpa using h
  clear h hT
  go_enter Tryz.func31,Tryz.ntmps31
  go_wp2_with fail
  refine(C1.out _ (ba _ _)).mono ?_
  rintro e w1 ⟨rfl,hb1⟩
  have HB1:=Lib.hid (bstep HB0.out hb1)
  go_wp2_with fail
  go_ret
  exact⟨rfl,HB1.out⟩
 subst h
 by_cases h:now<0
 ·obtain rfl:M=7:=by rw[hT.out];simp[h]
  clear hT
  go_enter Tryz.func31,Tryz.ntmps31
  go_wp2_with fail
  refine(C1.out _ (ba _ _)).mono ?_
  rintro e w1 ⟨rfl,hb1⟩
  have HB1:=Lib.hid (bstep HB0.out hb1)
  have b1:=K0.out.later hb1
  have c4:=b1.cell 4 (.int .i64 now) rfl
  have z0:=b1.lt
  clear b1
  go_wp2_with fail
  go_ret
  exact⟨rfl,HB1.out⟩
 replace hT:=Lib.hid (show M=if(seats.length:Int)≠E1 then 6 else if qs.length≠secs.length then 6 else if B=true then 6 else qsE qs secs by rw[hT.out,if_neg (by simp),if_neg h])
 have hnow:decide (now<0)=false:=by simpa using h
 clear h
 by_cases h:(seats.length:Int)=E1
 case neg=>
  obtain rfl:M=6:=by rw[hT.out,if_pos h]
  have t:((seats.length:Int) !=E1)=true:=by simpa using h
  clear h hT
  go_enter Tryz.func31,Tryz.ntmps31
  go_wp2_with fail
  refine(C1.out _ (ba _ _)).mono ?_
  rintro e w1 ⟨rfl,hb1⟩
  have HB1:=Lib.hid (bstep HB0.out hb1)
  have b1:=K0.out.later hb1
  have c3:=b1.cell 3 (.slice V secs.length vc) rfl
  have c4:=b1.cell 4 (.int .i64 now) rfl
  have c5:=b1.cell 5 (.slice A seats.length ac) rfl
  have c6:=b1.cell 6 (.slice Q qs.length qc) rfl
  have z0:=b1.lt
  clear b1
  go_wp2_with fail
  go_ret
  exact⟨rfl,HB1.out⟩
 have t1:((seats.length:Int) !=E1)=false:=by simpa using h
 by_cases h2:qs.length=secs.length
 case neg=>
  obtain rfl:M=6:=by rw[hT.out,if_neg (by simpa using h),if_pos h2]
  have t2:((qs.length:Int) !=(secs.length:Int))=true:=by simp;omega
  clear h h2 hT
  go_enter Tryz.func31,Tryz.ntmps31
  go_wp2_with fail
  refine(C1.out _ (ba _ _)).mono ?_
  rintro e w1 ⟨rfl,hb1⟩
  have HB1:=Lib.hid (bstep HB0.out hb1)
  have b1:=K0.out.later hb1
  have c3:=b1.cell 3 (.slice V secs.length vc) rfl
  have c4:=b1.cell 4 (.int .i64 now) rfl
  have c5:=b1.cell 5 (.slice A seats.length ac) rfl
  have c6:=b1.cell 6 (.slice Q qs.length qc) rfl
  have z0:=b1.lt
  clear b1
  go_wp2_with fail
  go_ret
  exact⟨rfl,HB1.out⟩
 have t2:((qs.length:Int) !=(secs.length:Int))=false:=by simp;omega
 have HL:=Lib.hid h2
 cases B with
 |true=>
  obtain rfl:M=6:=by rw[hT.out,if_neg (by simpa using h),if_neg (by simpa using h2),if_pos rfl]
  clear h h2 hT
  go_enter Tryz.func31,Tryz.ntmps31
  go_wp2_with fail
  refine(C1.out _ (ba _ _)).mono ?_
  rintro e w1 ⟨rfl,hb1⟩
  have HB1:=Lib.hid (bstep HB0.out hb1)
  have b1:=K0.out.later hb1
  have c3:=b1.cell 3 (.slice V secs.length vc) rfl
  have c4:=b1.cell 4 (.int .i64 now) rfl
  have c5:=b1.cell 5 (.slice A seats.length ac) rfl
  have c6:=b1.cell 6 (.slice Q qs.length qc) rfl
  have z0:=b1.lt
  clear b1
  go_wp2_with fail
  refine(C2.out _ HB1.out).mono ?_
  rintro e w2 ⟨rfl,hb2⟩
  have HB2:=Lib.hid (bstep HB1.out hb2)
  go_wp2_with fail
  go_ret
  exact⟨rfl,HB2.out⟩
 |false=>
  replace hT:=Lib.hid (show M=qsE qs secs by rw[hT.out,if_neg (by simpa using h),if_neg (by simpa using h2),if_neg (by simp)])
  clear h h2
  go_enter Tryz.func31,Tryz.ntmps31
  go_wp2_with fail
  refine(C1.out _ (ba _ _)).mono ?_
  rintro e w1 ⟨rfl,hb1⟩
  have HB1:=Lib.hid (bstep HB0.out hb1)
  have b1:=K0.out.later hb1
  have c3:=b1.cell 3 (.slice V secs.length vc) rfl
  have c4:=b1.cell 4 (.int .i64 now) rfl
  have c5:=b1.cell 5 (.slice A seats.length ac) rfl
  have c6:=b1.cell 6 (.slice Q qs.length qc) rfl
  have z0:=b1.lt
  have K1:=Lib.hid b1
  clear b1
  go_wp2_with fail
  refine(C2.out _ HB1.out).mono ?_
  rintro e w2 ⟨rfl,hb2⟩
  have HB2:=Lib.hid (bstep HB1.out hb2)
  have K2:=Lib.hid (K1.out.later hb2)
  have c3:=K2.out.cell 3 (.slice V secs.length vc) rfl
  have c6:=K2.out.cell 6 (.slice Q qs.length qc) rfl
  have z0:=K2.out.lt
  clear hb2 hb1
  go_wp2_with fail
  have hmm:= @run_makeMap Tryz.prog
  go_loopw [48] (fun i wr=> ∃k:Nat,k≤qs.length∧i=.int .i64 k∧Hid (Below w2.heap.size w2 wr∧M=qsE (qs.drop k) (secs.drop k))) (fun i _=>qs.length-(intOf i).toNat)
  case atStart=>exact⟨0,by omega,rfl,Below.refl _ _,by rw[hT.out];rfl⟩
  case round=>
   obtain⟨k,hk,rfl,hrel⟩:=hrel
   rename World=>wo
   have HBr:=Lib.hid (bstep HB2.out hrel.out.1)
   have HBx:=Lib.hid hrel.out.1
   have HM:=Lib.hid hrel.out.2
   clear hrel hT
   by_cases hlt:k<qs.length
   ·have hlt2:k<secs.length:=by rw[←HL.out];exact hlt
    obtain⟨b,off,A',c',rfl,hbl,e0,hin⟩:=(HS.out.qs.up HBr.out).atQ hlt
    obtain⟨b',off',_,_,rfl,hbl',_,_,e2,_,hbq,_⟩:=(HS.out.secs.up HBr.out).atS hlt2
    replace HM:=Lib.hid (HM.out.trans (qsE_drop hlt hlt2))
    have K3:=Lib.hid (K2.out.later HBx.out)
    have c3':=K3.out.cell 3 (.slice (some ⟨b',off',none⟩) secs.length vc) rfl
    have z3:=K3.out.lt
    have hk0:(0:Int)≤(k:Int):=by omega
    have hk1:(k:Int)<(qs.length:Int):=by omega
    have hk2:(k:Int)<(secs.length:Int):=by omega
    have hq1:=HN.out.1
    have hln:=HN.out.2 qs[k] (List.getElem_mem hlt)
    have HI:=Lib.hid hin
    clear hin c3 c6 z0
    dsimp only at e0 e2
    generalize hl:qs[k]=l at e0 HI HM hln
    generalize secs[k].queue=q at e2 HM
    have HLq:=Lib.hid hl
    clear hl
    by_cases hq:q<(l.length:Int)
    ·obtain rfl:M=3:=by rw[HM.out,if_pos hq]
     clear HM
     go_wp2_with fail
     go_ret
     exact⟨rfl,HBr.out⟩
    ·have tq:decide (q<(l.length:Int))=false:=by simpa using hq
     replace HM:=Lib.hid (show M=if twB [] l then 8 else qsE (qs.drop (k+1)) (secs.drop (k+1)) by rw[HM.out,if_neg hq])
     clear hq
     go_wp2_with fail
     go_loopw [66] (fun i wq=> ∃j:Nat,j≤l.length∧i=.int .i64 j∧Hid (Below wo.heap.size wo wq∧MapS Tryz.prog 41 4 wq wo.heap.size j (l.take j)∧∀j',(h:j'<l.length)→j'<j→(l.take j').contains l[j']=false)) (fun i _=>l.length-(intOf i).toNat)
     case atStart=>exact⟨0,by omega,rfl,ba _ _,MapS.new _ _ _ _,fun _ _ h=>by omega⟩
     case round=>
      obtain⟨j,hj,rfl,hrel⟩:=hrel
      have HBq:=Lib.hid hrel.out.1
      have HX:=Lib.hid hrel.out.2.1
      have HA:=Lib.hid hrel.out.2.2
      clear hrel
      by_cases hlj:j<l.length
      ·obtain⟨g,o,rfl,hbg,d0,hu⟩:=(HI.out.up HBq.out).atU hlj
       have HU:=Lib.hid hu
       clear hu e2 c3'
       have hj0:(0:Int)≤(j:Int):=by omega
       have hj1:(j:Int)<(l.length:Int):=by omega
       cases hc:(l.take j).contains l[j] with
       |true=>
        have HC:=Lib.hid hc
        obtain rfl:M=8:=by rw[HM.out,if_pos (twB_hit hlj hc)]
        clear hc HM
        generalize l[j]=x at d0 HU HC
        go_wp2_with (first|(at_lookup;refine wpList_lookup_mapSc _ rfl (.tmp 70) (.tmp 71) 120 rfl 41 4 keyU Tryz.underlying41 Tryz.underlying120 Tryz.underlying4 (zeroB _) wo.heap.size j _ rfl HX.out _ rfl HU.out true HC.out ?_)|fail)
        go_ret
        exact⟨rfl,bstep HBr.out HBq.out⟩
       |false=>
        have HC:=Lib.hid hc
        clear hc
        generalize hx:l[j]=x at d0 HU HC
        have HXj:=Lib.hid hx
        clear hx
        go_wp2_with (first|(at_lookup;refine wpList_lookup_mapSc _ rfl (.tmp 70) (.tmp 71) 120 rfl 41 4 keyU Tryz.underlying41 Tryz.underlying120 Tryz.underlying4 (zeroB _) wo.heap.size j _ rfl HX.out _ rfl HU.out false HC.out ?_)|(at_mapUpdate;refine wpList_update_mapS _ rfl (.tmp 73) (.tmp 74) (.const (.bool true)) 120 rfl 41 4 keyU Tryz.underlying41 Tryz.underlying120 Tryz.underlying4 wo.heap.size j _ rfl HX.out (by omega) _ rfl rfl HU.out ?_;intro w5 hx5 hg5)|fail)
        go_roundw
        case rel=>
         refine⟨j+1,by omega,by go_num,HBq.out.grown hg5 (by have:=HBq.out.size;omega) (fun b hb=>by injection hb;omega),by rw[List.take_succ_eq_append_getElem hlj,HXj.out];exact hx5,fun j' h h'=> ?_⟩
         by_cases e:j'=j
         ·subst e
          rw[HXj.out]
          exact HC.out
         ·exact HA.out j' h (by omega)
        case measure=>simp[intOf];omega
      ·replace HM:=Lib.hid (show M=qsE (qs.drop (k+1)) (secs.drop (k+1)) by rw[HM.out,twB_miss fun j' h=>HA.out j' h (by omega)];rfl)
       clear HX HA
       go_wp2_with fail
       go_roundw
       case rel=>exact⟨k+1,by omega,by go_num,bstep HBx.out HBq.out,HM.out⟩
       case measure=>simp[intOf];omega
   ·obtain rfl:M=0:=by rw[HM.out,List.drop_eq_nil_of_le (by omega)];rfl
    clear HM
    go_wp2_with fail
    go_ret
    exact⟨rfl,HBr.out⟩
end Go.Proofs.YtlckmjiioohcmaaGreatDoor
namespace Go.Proofs.YtlckmjiioohcmaaGreatDoor
open Go.RowKit
def zeroSx:Sx:=⟨0,0,0,0,0⟩
def zeroMd:Md:=⟨⟨0,0,0,[]⟩,0,[],[]⟩
def newM (x:Ve):Md×Int:=if(seatsV x).2≠0 then(zeroMd,(seatsV x).2) else(⟨x,0,List.replicate (seatsV x).1.toNat zeroSx,List.replicate x.secs.length []⟩,0)
theorem infoQ:(Tryz.prog.info? 85).map (fun i=>(i.zero,i.size,i.bytes))=some (some (.slice none 0 0),1,24):=by kernel_rfl
theorem infoX:(Tryz.prog.info? 81).map (fun i=>(i.zero,i.size,i.bytes))=some (some (.agg #[.int .i64 0,.int .u32 0,.int .i64 0,.int .u64 0,.int .u64 0]),5,40):=by kernel_rfl
theorem made_qus:∀k:Nat,(madeCells #[Value.slice none 0 0] k).toList=List.replicate k (Value.slice none 0 0):=by
 intro k
 apply List.ext_getElem?
 intro i
 by_cases h:i<k<;>simp[madeCells,h,Nat.mod_one]
theorem mk_qus (k:Nat) (hk:k≤1000000) (w:World):(Instr.makeSlice 29 (.int .i64 (k:Int)) (.int .i64 (k:Int))).run Tryz.prog w=.ok (.slice (some ⟨w.heap.size,0,none⟩) k k) (w.alloc (.cells (madeCells #[.slice none 0 0] k) 85)):=by
 obtain⟨i,hi,hz,hs,hb⟩:=info_parts infoQ
 have h:=run_make (P:=Tryz.prog) w 29 85 i _ Tryz.underlying29 hi hz .i64 .i64 k k (by omega) (Int.le_refl _) (by rw[hb];omega) (by omega)
 rw[h,hs]
 simp only[Int.toNat_natCast,Nat.mul_one]
 rfl
def zeroX:Array Value:=#[.int .i64 0,.int .u32 0,.int .i64 0,.int .u64 0,.int .u64 0]
theorem mk_seats (k:Nat) (hk:k≤1000000) (w:World):(Instr.makeSlice 28 (.int .i64 (k:Int)) (.int .i64 (k:Int))).run Tryz.prog w=.ok (.slice (some ⟨w.heap.size,0,none⟩) k k) (w.alloc (.cells (madeCells zeroX (k*5)) 81)):=by
 obtain⟨i,hi,hz,hs,hb⟩:=info_parts infoX
 have h:=run_make (P:=Tryz.prog) w 28 81 i _ Tryz.underlying28 hi hz .i64 .i64 k k (by omega) (Int.le_refl _) (by rw[hb];omega) (by omega)
 rw[h,hs]
 simp only[Int.toNat_natCast]
 rfl
theorem many_zeros (w:World):∀k:Nat,sxR.many w ((List.range (k*5)).map fun i=>zeroX[i%5]!) (List.replicate k zeroSx)
 |0=>by simp[Rep.many]
 |k+1=>by
  refine⟨zeroX.toList,_, ?_,⟨rfl, ?_⟩,many_zeros w k⟩
  ·rw[show(k+1)*5=5+k*5 by omega,List.range_add,List.map_append,List.map_map]
   congr 1
   apply List.map_congr_left
   intro i _
   simp
  ·simp[zeroSx,SxOk,U32,U64,Bd]
theorem made_seats (n:Nat):(madeCells zeroX n).toList=(List.range n).map fun i=>zeroX[i%5]!:=by
 simp only[madeCells,Array.toList_map,Array.toList_range]
 rfl
theorem own_seats (w:World) (k:Nat) (hk:k≤1000000):Own sxR 81 w.heap.size (w.alloc (.cells (madeCells zeroX (k*5)) 81)) (.slice (some ⟨w.heap.size,0,none⟩) k k) (List.replicate k zeroSx):=by
 have h:=Own.lit (R:=sxR) (e:=81) (B:=w.heap.size) (g:=w.heap.size) (n:=k) (w:=w) (cells:=(madeCells zeroX (k*5)).toList) (xs:=List.replicate k zeroSx) rfl (Nat.le_refl _)
  (by rw[made_seats];exact many_zeros _ k) (by simp) hk
 simpa using h
theorem many_nils (w:World):∀k:Nat,quR.many w (List.replicate k (Value.slice none 0 0)) (List.replicate k [])
 |0=>by simp[Rep.many]
 |k+1=>⟨[.slice none 0 0],List.replicate k (Value.slice none 0 0),rfl,⟨none,0,rfl,Sl.none _ _⟩,many_nils w k⟩
theorem own_zeros (w:World) (k:Nat) (hk:k≤1000000):Own quR 85 w.heap.size (w.alloc (.cells (madeCells #[.slice none 0 0] k) 85)) (.slice (some ⟨w.heap.size,0,none⟩) k k) (List.replicate k []):=by
 have h:=Own.lit (R:=quR) (e:=85) (B:=w.heap.size) (g:=w.heap.size) (n:=k) (w:=w) (cells:=(madeCells #[Value.slice none 0 0] k).toList) (xs:=List.replicate k []) rfl (Nat.le_refl _)
  (by rw[made_qus];exact many_nils _ k) (by simp) hk
 simpa using h
theorem new_end1 {W w1:World} {g k:Nat} {V:Option Addr} {vc:Nat} {x:Ve} {ds:List Value} (hl:ds.length=7) (hb:Below W.heap.size W w1) (hg:W.heap.size≤g) (hc:Cells w1 g ds) (hk:k≤1000000) (hs:x.secs.length≤1000000):
 Below W.heap.size W (((putAt w1 g 0 [.int .i64 x.shards,.int .i64 x.ttl,.int .i64 x.session,.slice V x.secs.length vc,.int .i64 0,.slice (some ⟨w1.heap.size,0,none⟩) k k,.slice (some ⟨(w1.heap.size+1),0,none⟩) x.secs.length x.secs.length]).alloc (.cells (madeCells zeroX (k*5)) 81)).alloc (.cells (madeCells #[.slice none 0 0] x.secs.length) 85)).drew∧Cells (((putAt w1 g 0 [.int .i64 x.shards,.int .i64 x.ttl,.int .i64 x.session,.slice V x.secs.length vc,.int .i64 0,.slice (some ⟨w1.heap.size,0,none⟩) k k,.slice (some ⟨(w1.heap.size+1),0,none⟩) x.secs.length x.secs.length]).alloc (.cells (madeCells zeroX (k*5)) 81)).alloc (.cells (madeCells #[.slice none 0 0] x.secs.length) 85)).drew g [.int .i64 x.shards,.int .i64 x.ttl,.int .i64 x.session,.slice V x.secs.length vc,.int .i64 0,.slice (some ⟨w1.heap.size,0,none⟩) k k,.slice (some ⟨(w1.heap.size+1),0,none⟩) x.secs.length x.secs.length]∧Own sxR 81 W.heap.size (((putAt w1 g 0 [.int .i64 x.shards,.int .i64 x.ttl,.int .i64 x.session,.slice V x.secs.length vc,.int .i64 0,.slice (some ⟨w1.heap.size,0,none⟩) k k,.slice (some ⟨(w1.heap.size+1),0,none⟩) x.secs.length x.secs.length]).alloc (.cells (madeCells zeroX (k*5)) 81)).alloc (.cells (madeCells #[.slice none 0 0] x.secs.length) 85)).drew (.slice (some ⟨w1.heap.size,0,none⟩) k k) (List.replicate k zeroSx)∧Own quR 85 W.heap.size (((putAt w1 g 0 [.int .i64 x.shards,.int .i64 x.ttl,.int .i64 x.session,.slice V x.secs.length vc,.int .i64 0,.slice (some ⟨w1.heap.size,0,none⟩) k k,.slice (some ⟨(w1.heap.size+1),0,none⟩) x.secs.length x.secs.length]).alloc (.cells (madeCells zeroX (k*5)) 81)).alloc (.cells (madeCells #[.slice none 0 0] x.secs.length) 85)).drew (.slice (some ⟨(w1.heap.size+1),0,none⟩) x.secs.length x.secs.length) (List.replicate x.secs.length []):=by
 obtain⟨k3,hgr⟩:=hc.put [.int .i64 x.shards,.int .i64 x.ttl,.int .i64 x.session,.slice V x.secs.length vc,.int .i64 0,.slice (some ⟨w1.heap.size,0,none⟩) k k,.slice (some ⟨(w1.heap.size+1),0,none⟩) x.secs.length x.secs.length] (by rw[hl];rfl)
 have hz:(putAt w1 g 0 [.int .i64 x.shards,.int .i64 x.ttl,.int .i64 x.session,.slice V x.secs.length vc,.int .i64 0,.slice (some ⟨w1.heap.size,0,none⟩) k k,.slice (some ⟨(w1.heap.size+1),0,none⟩) x.secs.length x.secs.length]).heap.size=w1.heap.size:=by simp[putAt]
 have hb2:Below W.heap.size W (putAt w1 g 0 [.int .i64 x.shards,.int .i64 x.ttl,.int .i64 x.session,.slice V x.secs.length vc,.int .i64 0,.slice (some ⟨w1.heap.size,0,none⟩) k k,.slice (some ⟨(w1.heap.size+1),0,none⟩) x.secs.length x.secs.length]):=hb.grown hgr hb.size (fun j hj=>by injection hj with hj;omega)
 generalize putAt w1 g 0 [.int .i64 x.shards,.int .i64 x.ttl,.int .i64 x.session,.slice V x.secs.length vc,.int .i64 0,.slice (some ⟨w1.heap.size,0,none⟩) k k,.slice (some ⟨(w1.heap.size+1),0,none⟩) x.secs.length x.secs.length]=w2 at k3 hz hb2⊢
 refine⟨(bal (bal hb2)).drew,((k3.alloc _).alloc _).drew, ?_, ?_⟩
 ·have h:=(own_seats w2 k hk).mono hb2.size
  rw[hz] at h
  exact(h.up (ba _ _)).up (bdd (Below.refl _ _))
 ·have h:=(own_zeros (w2.alloc (.cells (madeCells zeroX (k*5)) 81)) x.secs.length hs).mono (B':=W.heap.size) (by have:=hb2.size;simp;omega)
  rw[World.size_alloc,hz] at h
  exact h.up (bdd (Below.refl _ _))
theorem new_end2 {W w1:World} {g k:Nat} {V:Option Addr} {vc:Nat} {x:Ve} {ds:List Value} (hl:ds.length=7) (hb:Below W.heap.size W w1) (hg:W.heap.size≤g) (hc:Cells w1 g ds) (hk:k≤1000000) (hs:x.secs.length≤1000000):
 Below W.heap.size W (((putAt w1 g 0 [.int .i64 x.shards,.int .i64 x.ttl,.int .i64 x.session,.slice V x.secs.length vc,.int .i64 0,.slice (some ⟨(w1.heap.size+1),0,none⟩) k k,.slice (some ⟨w1.heap.size,0,none⟩) x.secs.length x.secs.length]).alloc (.cells (madeCells #[.slice none 0 0] x.secs.length) 85)).alloc (.cells (madeCells zeroX (k*5)) 81)).drew∧Cells (((putAt w1 g 0 [.int .i64 x.shards,.int .i64 x.ttl,.int .i64 x.session,.slice V x.secs.length vc,.int .i64 0,.slice (some ⟨(w1.heap.size+1),0,none⟩) k k,.slice (some ⟨w1.heap.size,0,none⟩) x.secs.length x.secs.length]).alloc (.cells (madeCells #[.slice none 0 0] x.secs.length) 85)).alloc (.cells (madeCells zeroX (k*5)) 81)).drew g [.int .i64 x.shards,.int .i64 x.ttl,.int .i64 x.session,.slice V x.secs.length vc,.int .i64 0,.slice (some ⟨(w1.heap.size+1),0,none⟩) k k,.slice (some ⟨w1.heap.size,0,none⟩) x.secs.length x.secs.length]∧Own sxR 81 W.heap.size (((putAt w1 g 0 [.int .i64 x.shards,.int .i64 x.ttl,.int .i64 x.session,.slice V x.secs.length vc,.int .i64 0,.slice (some ⟨(w1.heap.size+1),0,none⟩) k k,.slice (some ⟨w1.heap.size,0,none⟩) x.secs.length x.secs.length]).alloc (.cells (madeCells #[.slice none 0 0] x.secs.length) 85)).alloc (.cells (madeCells zeroX (k*5)) 81)).drew (.slice (some ⟨(w1.heap.size+1),0,none⟩) k k) (List.replicate k zeroSx)∧Own quR 85 W.heap.size (((putAt w1 g 0 [.int .i64 x.shards,.int .i64 x.ttl,.int .i64 x.session,.slice V x.secs.length vc,.int .i64 0,.slice (some ⟨(w1.heap.size+1),0,none⟩) k k,.slice (some ⟨w1.heap.size,0,none⟩) x.secs.length x.secs.length]).alloc (.cells (madeCells #[.slice none 0 0] x.secs.length) 85)).alloc (.cells (madeCells zeroX (k*5)) 81)).drew (.slice (some ⟨w1.heap.size,0,none⟩) x.secs.length x.secs.length) (List.replicate x.secs.length []):=by
 obtain⟨k3,hgr⟩:=hc.put [.int .i64 x.shards,.int .i64 x.ttl,.int .i64 x.session,.slice V x.secs.length vc,.int .i64 0,.slice (some ⟨(w1.heap.size+1),0,none⟩) k k,.slice (some ⟨w1.heap.size,0,none⟩) x.secs.length x.secs.length] (by rw[hl];rfl)
 have hz:(putAt w1 g 0 [.int .i64 x.shards,.int .i64 x.ttl,.int .i64 x.session,.slice V x.secs.length vc,.int .i64 0,.slice (some ⟨(w1.heap.size+1),0,none⟩) k k,.slice (some ⟨w1.heap.size,0,none⟩) x.secs.length x.secs.length]).heap.size=w1.heap.size:=by simp[putAt]
 have hb2:Below W.heap.size W (putAt w1 g 0 [.int .i64 x.shards,.int .i64 x.ttl,.int .i64 x.session,.slice V x.secs.length vc,.int .i64 0,.slice (some ⟨(w1.heap.size+1),0,none⟩) k k,.slice (some ⟨w1.heap.size,0,none⟩) x.secs.length x.secs.length]):=hb.grown hgr hb.size (fun j hj=>by injection hj with hj;omega)
 generalize putAt w1 g 0 [.int .i64 x.shards,.int .i64 x.ttl,.int .i64 x.session,.slice V x.secs.length vc,.int .i64 0,.slice (some ⟨(w1.heap.size+1),0,none⟩) k k,.slice (some ⟨w1.heap.size,0,none⟩) x.secs.length x.secs.length]=w2 at k3 hz hb2⊢
 refine⟨(bal (bal hb2)).drew,((k3.alloc _).alloc _).drew, ?_, ?_⟩
 ·have h:=(own_seats (w2.alloc (.cells (madeCells #[.slice none 0 0] x.secs.length) 85)) k hk).mono (B':=W.heap.size) (by have:=hb2.size;simp;omega)
  rw[World.size_alloc,hz] at h
  exact h.up (bdd (Below.refl _ _))
 ·have h:=(own_zeros w2 x.secs.length hs).mono hb2.size
  rw[hz] at h
  exact(h.up (ba _ _)).up (bdd (Below.refl _ _))
def NewPost (w:World) (x:Ve) (e:Ending) (w':World):Prop:=∃F,e=.returned (.tuple #[mdV F (newM x).1,.int .i64 (newM x).2])∧Below w.heap.size w w'∧IsMd w' F (newM x).1
set_option maxRecDepth 20000 in
set_option maxHeartbeats 4000000 in
theorem new_any {W:World} {V:Option Addr} {vc:Nat} {x:Ve} (hv:Sl secR W (.slice V x.secs.length vc) x.secs) (h1:Bd x.shards) (h2:Bd x.ttl) (h3:Bd x.session):
 Calls Tryz.prog 9 #[.agg #[.int .i64 x.shards,.int .i64 x.ttl,.int .i64 x.session,.slice V x.secs.length vc]] W (NewPost W x):=by
 have C1:=Lib.hid (fun w (hw:Below W.heap.size W w)=>seats_any _ x w ⟨V,vc,rfl,hv.up hw,h1,h2,h3⟩)
 have hT:=Lib.hid (show newM x=if(seatsV x).2≠0 then(zeroMd,(seatsV x).2) else(⟨x,0,List.replicate (seatsV x).1.toNat zeroSx,List.replicate x.secs.length []⟩,0) from rfl)
 have hok:=Lib.hid (show(seatsV x).2=0→0≤(seatsV x).1∧(seatsV x).1≤4096∧x.secs.length≤8 by
  intro h
  unfold seatsV at h⊢
  by_cases hc:(checkV x).2≠0
  ·rw[if_pos hc] at h;exact absurd h hc
  ·rw[if_neg hc]
   have h4:=checkV_ok (Decidable.not_not.1 hc)
   refine⟨?_,h4.2.1,h4.1.1⟩
   have h5:=upTo_bd (k:=x.secs.length) (Nat.le_refl _) fun i hi _=>h4.1.2 i hi
   have h6:upTo x.secs x.secs.length=sum (allRows x):=by simp[upTo,allRows]
   omega)
 have hx:=Lib.hid (show Sl secR W (.slice V x.secs.length vc) x.secs from hv)
 generalize seatsV x=E at C1 hT hok
 obtain⟨n,e⟩:=E
 simp only at C1 hT hok
 have hbd:=Lib.hid (And.intro h1 (And.intro h2 h3))
 clear hv h1 h2 h3
 go_enter Tryz.func9,Tryz.ntmps9
 go_wp2_with fail
 refine(C1.out _ (bal (ba _ _))).mono ?_
 rintro e1 w1 ⟨rfl,hb⟩
 have HB:=Lib.hid ((bal (ba W _)).trans (hb.mono (bal (ba W _)).size))
 have k1:=((Cells.new W [.int .i64 x.shards,.int .i64 x.ttl,.int .i64 x.session,.slice V x.secs.length vc] 24).alloc (.cells #[.int .i64 0,.int .i64 0,.int .i64 0,.slice none 0 0,.int .i64 0,.slice none 0 0,.slice none 0 0] 31)).later hb
 have k2:=(Cells.new (W.alloc (.cells #[.int .i64 x.shards,.int .i64 x.ttl,.int .i64 x.session,.slice V x.secs.length vc] 24)) [.int .i64 0,.int .i64 0,.int .i64 0,.slice none 0 0,.int .i64 0,.slice none 0 0,.slice none 0 0] 31).later hb
 rw[World.size_alloc] at k2
 have K1:=Lib.hid k1
 have K2:=Lib.hid k2
 have d0:=k2.c 0 _ rfl
 have f0:=k2.f 0
 have d1:=k2.c 1 _ rfl
 have f1:=k2.f 1
 have d2:=k2.c 2 _ rfl
 have f2:=k2.f 2
 have d3:=k2.c 3 _ rfl
 have f3:=k2.f 3
 have d4:=k2.c 4 _ rfl
 have f4:=k2.f 4
 have d5:=k2.c 5 _ rfl
 have f5:=k2.f 5
 have d6:=k2.c 6 _ rfl
 have f6:=k2.f 6
 have c0:=k1.c 0 _ rfl
 have c1:=k1.c 1 _ rfl
 have c2:=k1.c 2 _ rfl
 have c3:=k1.c 3 _ rfl
 have y1:=k1.lt
 have y2:=k2.lt
 clear hb k1 k2 C1
 by_cases he:e=0
 case neg=>
  have t0:(e !=0)=true:=by simpa using he
  have hN:=Lib.hid (show newM x=(zeroMd,e) by rw[hT.out,if_pos he])
  go_wp2_with fail
  obtain⟨k3,hg⟩:=K2.out.put [.int .i64 0,.int .i64 0,.int .i64 0,.slice none 0 0,.int .i64 0,.slice none 0 0,.slice none 0 0] rfl
  refine at_world (fun w=>Below W.heap.size W w∧Cells w (W.heap.size+1) [.int .i64 0,.int .i64 0,.int .i64 0,.slice none 0 0,.int .i64 0,.slice none 0 0,.slice none 0 0]) ⟨HB.out.grown hg (by have:=HB.out.size;omega) (fun j hj=>by injection hj with hj;omega),k3⟩ fun w2 ⟨hb2,k4⟩=> ?_
  have g0:=k4.c 0 _ rfl
  have g1:=k4.c 1 _ rfl
  have g2:=k4.c 2 _ rfl
  have g3:=k4.c 3 _ rfl
  have g4:=k4.c 4 _ rfl
  have g5:=k4.c 5 _ rfl
  have g6:=k4.c 6 _ rfl
  refine bodyPost_ret (v:=.tuple #[.agg #[.int .i64 0,.int .i64 0,.int .i64 0,.slice none 0 0,.int .i64 0,.slice none 0 0,.slice none 0 0],.int .i64 e]) (by simp[results,Tryz.results9,go_sem,g0,g1,g2,g3,g4,g5,g6]) rfl ⟨⟨none,0,none,0,none,0⟩,by rw[hN.out];rfl,hb2,by rw[hN.out];exact⟨Sl.none _ _,Sl.none _ _,Sl.none _ _,by simp[zeroMd,Bd],by simp[zeroMd,Bd],by simp[zeroMd,Bd],by simp[zeroMd,Bd]⟩⟩
 subst he
 obtain⟨hn0,hn1,hm⟩:=hok.out rfl
 obtain⟨k,rfl⟩:=Int.eq_ofNat_of_zero_le hn0
 have hN:=Lib.hid (show newM x=(⟨x,0,List.replicate k zeroSx,List.replicate x.secs.length []⟩,0) by rw[hT.out,if_neg (by simp),Int.toNat_natCast])
 have hmk1:=mk_seats k (by omega)
 have hmk2:=mk_qus x.secs.length (by omega)
 clear hT hok
 go_wp2_with fail
 go_region
 all_goals clear d0 d1 d2 d3 d4 d5 d6 f0 f1 f2 f3 f4 f5 f6 c0 c1 c2 c3
 ·go_wp2_with fail
  have hE:=new_end1 (V:=V) (vc:=vc) (x:=x) (g:=W.heap.size+1) (k:=k) (W:=W) (w1:=w1) rfl HB.out (by omega) K2.out (by omega) (by omega)
  simp only[putAt,Nat.zero_add,Nat.reduceAdd] at hE
  refine at_world (fun w=>Below W.heap.size W w∧Cells w (W.heap.size+1) [.int .i64 x.shards,.int .i64 x.ttl,.int .i64 x.session,.slice V x.secs.length vc,.int .i64 0,.slice (some ⟨w1.heap.size,0,none⟩) k k,.slice (some ⟨(w1.heap.size+1),0,none⟩) x.secs.length x.secs.length]∧Own sxR 81 W.heap.size w (.slice (some ⟨w1.heap.size,0,none⟩) k k) (List.replicate k zeroSx)∧Own quR 85 W.heap.size w (.slice (some ⟨(w1.heap.size+1),0,none⟩) x.secs.length x.secs.length) (List.replicate x.secs.length [])) hE fun w2 ⟨hb2,k4,o1,o2⟩=> ?_
  clear hE
  have g0:=k4.c 0 _ rfl
  have g1:=k4.c 1 _ rfl
  have g2:=k4.c 2 _ rfl
  have g3:=k4.c 3 _ rfl
  have g4:=k4.c 4 _ rfl
  have g5:=k4.c 5 _ rfl
  have g6:=k4.c 6 _ rfl
  refine bodyPost_ret (v:=.tuple #[.agg #[.int .i64 x.shards,.int .i64 x.ttl,.int .i64 x.session,.slice V x.secs.length vc,.int .i64 0,.slice (some ⟨w1.heap.size,0,none⟩) k k,.slice (some ⟨(w1.heap.size+1),0,none⟩) x.secs.length x.secs.length],.int .i64 0]) (by simp[results,Tryz.results9,go_sem,g0,g1,g2,g3,g4,g5,g6]) rfl ⟨⟨V,vc,some ⟨w1.heap.size,0,none⟩,k,some ⟨(w1.heap.size+1),0,none⟩,x.secs.length⟩, ?_,hb2, ?_⟩
  ·rw[hN.out];simp[mdV]
  ·rw[hN.out]
   have q1:=o1.sl
   have q2:=o2.sl
   exact⟨hx.out.up hb2,by simpa using q1,by simpa using q2,hbd.out.1,hbd.out.2.1,hbd.out.2.2,by simp[Bd]⟩
 ·go_wp2_with fail
  have hE:=new_end2 (V:=V) (vc:=vc) (x:=x) (g:=W.heap.size+1) (k:=k) (W:=W) (w1:=w1) rfl HB.out (by omega) K2.out (by omega) (by omega)
  simp only[putAt,Nat.zero_add,Nat.reduceAdd] at hE
  refine at_world (fun w=>Below W.heap.size W w∧Cells w (W.heap.size+1) [.int .i64 x.shards,.int .i64 x.ttl,.int .i64 x.session,.slice V x.secs.length vc,.int .i64 0,.slice (some ⟨(w1.heap.size+1),0,none⟩) k k,.slice (some ⟨w1.heap.size,0,none⟩) x.secs.length x.secs.length]∧Own sxR 81 W.heap.size w (.slice (some ⟨(w1.heap.size+1),0,none⟩) k k) (List.replicate k zeroSx)∧Own quR 85 W.heap.size w (.slice (some ⟨w1.heap.size,0,none⟩) x.secs.length x.secs.length) (List.replicate x.secs.length [])) hE fun w2 ⟨hb2,k4,o1,o2⟩=> ?_
  clear hE
  have g0:=k4.c 0 _ rfl
  have g1:=k4.c 1 _ rfl
  have g2:=k4.c 2 _ rfl
  have g3:=k4.c 3 _ rfl
  have g4:=k4.c 4 _ rfl
  have g5:=k4.c 5 _ rfl
  have g6:=k4.c 6 _ rfl
  refine bodyPost_ret (v:=.tuple #[.agg #[.int .i64 x.shards,.int .i64 x.ttl,.int .i64 x.session,.slice V x.secs.length vc,.int .i64 0,.slice (some ⟨(w1.heap.size+1),0,none⟩) k k,.slice (some ⟨w1.heap.size,0,none⟩) x.secs.length x.secs.length],.int .i64 0]) (by simp[results,Tryz.results9,go_sem,g0,g1,g2,g3,g4,g5,g6]) rfl ⟨⟨V,vc,some ⟨(w1.heap.size+1),0,none⟩,k,some ⟨w1.heap.size,0,none⟩,x.secs.length⟩, ?_,hb2, ?_⟩
  ·rw[hN.out];simp[mdV]
  ·rw[hN.out]
   have q1:=o1.sl
   have q2:=o2.sl
   exact⟨hx.out.up hb2,by simpa using q1,by simpa using q2,hbd.out.1,hbd.out.2.1,hbd.out.2.2,by simp[Bd]⟩
end Go.Proofs.YtlckmjiioohcmaaGreatDoor
namespace Go.Proofs.YtlckmjiioohcmaaGreatDoor
open Go.RowKit
theorem infoX5:(Tryz.prog.info? 81).map (fun i=>(i.zero,i.size,i.bytes))=some (some (.agg #[.int .i64 0,.int .u32 0,.int .i64 0,.int .u64 0,.int .u64 0]),sxR.size,40):=by kernel_rfl
set_option maxHeartbeats 400000 in
theorem cloneX_any (v:Value) (xs:List Sx) (w:World) (hs:Sl sxR w v xs) (hsz:xs.length*40≤140737488355328):
 Calls Tryz.prog 93 #[v] w fun e w'=> ∃A c,e=.returned (.slice A xs.length c)∧Own sxR 81 w.heap.size w' (.slice A xs.length c) xs∧Below w.heap.size w w':=by
 obtain⟨A,c,rfl,hc,hm,hs⟩:=hs.open
 have q:=fun(W:World) (A:Option Addr) (n c:Nat)=>Lib.run_eql_slice_nil (P:=Tryz.prog) W 28 81 A n c 0 0 Tryz.underlying28
 cases A with
 |none=>
  have hx:xs=[]:=by
   obtain⟨A',c',he,_,_,hA⟩:=hs
   injection he with e1 e2 e3
   subst e1
   rcases hA with⟨h0,_⟩|⟨b,off,h,_⟩
   ·exact List.eq_nil_of_length_eq_zero h0
   ·cases h
  subst hx
  go_enter Tryz.func93,Tryz.ntmps93
  go_wp2_with fail
  go_ret
  exact⟨none,0,rfl,Own.nil _ _ _ _,Below.refl _ _⟩
 |some a=>
  have HS:=Lib.hid hs
  clear hs
  go_enter Tryz.func93,Tryz.ntmps93
  go_wp2_with (at_builtin;refine wpList_append_sl _ rfl (.tmp 5) (.tmp 6) 28 rfl sxR w.heap.size 81 _ 40 Tryz.underlying28 infoX5 rfl (by decide) _ [] rfl (Own.empty _ _ _ (Nat.le_refl _)) _ xs rfl (HS.out.up (ba _ _)) (by simpa using hsz) (by decide) (by simp) (fun w' _ cs y h=>sxR_flat _ _ _ _ h) ?_;intro v1 w1 hown1 hg1 hat1)
  go_ret
  obtain⟨A1,c1,rfl,_,_,ho⟩:=Own.form (show Own sxR 81 w.heap.size w1 v1 xs by simpa using hown1)
  refine⟨A1,c1,rfl,ho,(ba _ _).grown hg1 (by simp) fun k hk=> ?_⟩
  cases hk
  exact Nat.le_refl _
theorem infoU:(Tryz.prog.info? 41).map (fun i=>(i.zero,i.size,i.bytes))=some (some (.int .u32 0),u32R.size,4):=by kernel_rfl
set_option maxHeartbeats 400000 in
theorem cloneU_any (v:Value) (xs:List Int) (w:World) (hs:Sl u32R w v xs) (hsz:xs.length*4≤140737488355328):
 Calls Tryz.prog 94 #[v] w fun e w'=> ∃A c,e=.returned (.slice A xs.length c)∧Own u32R 41 w.heap.size w' (.slice A xs.length c) xs∧Below w.heap.size w w':=by
 obtain⟨A,c,rfl,hc,hm,hs⟩:=hs.open
 have q:=fun(W:World) (A:Option Addr) (n c:Nat)=>Lib.run_eql_slice_nil (P:=Tryz.prog) W 85 41 A n c 0 0 Tryz.underlying85
 cases A with
 |none=>
  have hx:xs=[]:=by
   obtain⟨A',c',he,_,_,hA⟩:=hs
   injection he with e1 e2 e3
   subst e1
   rcases hA with⟨h0,_⟩|⟨b,off,h,_⟩
   ·exact List.eq_nil_of_length_eq_zero h0
   ·cases h
  subst hx
  go_enter Tryz.func94,Tryz.ntmps94
  go_wp2_with fail
  go_ret
  exact⟨none,0,rfl,Own.nil _ _ _ _,Below.refl _ _⟩
 |some a=>
  have HS:=Lib.hid hs
  clear hs
  go_enter Tryz.func94,Tryz.ntmps94
  go_wp2_with (at_builtin;refine wpList_append_sl _ rfl (.tmp 5) (.tmp 6) 85 rfl u32R w.heap.size 41 _ 4 Tryz.underlying85 infoU rfl (by decide) _ [] rfl (Own.empty _ _ _ (Nat.le_refl _)) _ xs rfl (HS.out.up (ba _ _)) (by simpa using hsz) (by decide) (by simp) (fun w' _ cs y h=>u32R_flat _ _ _ _ h) ?_;intro v1 w1 hown1 hg1 hat1)
  go_ret
  obtain⟨A1,c1,rfl,_,_,ho⟩:=Own.form (show Own u32R 41 w.heap.size w1 v1 xs by simpa using hown1)
  refine⟨A1,c1,rfl,ho,(ba _ _).grown hg1 (by simp) fun k hk=> ?_⟩
  cases hk
  exact Nat.le_refl _
theorem Own.not_box {α:Type} {R:Rep α} {e t:TypeId} {B b:Nat} {W:World} {v:Value} {xs:List α} {cs:Array Value} (h:Own R e B W v xs) (hb:BoxN W b t cs) (hne:t≠e):v.ownBlock≠some b:=by
 intro hv
 obtain⟨_,ho,_⟩:=h
 rcases ho.2 with⟨rfl,_⟩|⟨g,cap,cur,rfl,_,hg,_⟩
 ·cases hv
 ·have e:g=b:=by simpa[Value.ownBlock] using hv
  rw[e,show W.heap[b]?=_ from hb] at hg
  injection hg with hg
  injection hg with _ ht
  exact hne ht
theorem Own.kept_box {α:Type} {R:Rep α} {e t:TypeId} {B b:Nat} {W W':World} {v:Value} {xs:List α} {cs:Array Value} (h:Own R e B W v xs) (hg:W.grownBy W' (some b)) (hb:BoxN W b t cs) (hne:t≠e) (hf:R.flat):Own R e B W' v xs:=
 h.kept hg (fun x hx e'=>h.not_box hb hne (by injection e' with e';rw[hx,e'])) fun cs y h=>hf _ _ _ _ h
theorem box_ne {W:World} {a b:Nat} {t u:TypeId} {cs ds:Array Value} (h:BoxN W a t cs) (h':BoxN W b u ds) (hne:t≠u):a≠b:=by
 intro e
 subst e
 have h1:W.heap[a]?=_:=h
 have h2:W.heap[a]?=_:=h'
 rw[h1] at h2
 injection h2 with h2
 injection h2 with _ ht
 exact hne ht
theorem set_next {α:Type} (cs:List α) (n:Nat) (z v:α) (hk:cs.length<n):(cs++List.replicate (n-cs.length) z).toArray.setIfInBounds cs.length v=((cs++[v])++List.replicate (n-(cs++[v]).length) z).toArray:=by
 obtain⟨m,hm⟩:∃m,n-cs.length=m+1:=⟨n-cs.length-1,by omega⟩
 rw[hm,List.replicate_succ,List.setIfInBounds_toArray,List.set_append_right _ _ (Nat.le_refl _),Nat.sub_self,List.set_cons_zero,List.length_append,List.length_singleton,show n-(cs.length+1)=m by omega]
 simp
structure QOwn (B:Nat) (W:World) (cs:List Value) (qs:List (List Int)):Prop where
 len:cs.length=qs.length
 own:∀(k:Nat) (l:List Int),qs[k]?=some l→∃A c,cs[k]?=some (.slice A l.length c)∧Own u32R 41 B W (.slice A l.length c) l
 sep:∀(j k:Nat) (u v:Value),j<k→cs[j]?=some u→cs[k]?=some v→∀x,u.ownBlock=some x→v.ownBlock≠some x
theorem QOwn.nil (B:Nat) (W:World):QOwn B W [] []:=⟨rfl,fun k l h=>by simp at h,fun j k u v _ h=>by simp at h⟩
theorem QOwn.up {B:Nat} {W W':World} {cs:List Value} {qs:List (List Int)} (h:QOwn B W cs qs) (hb:Below W.heap.size W W'):QOwn B W' cs qs:=
 ⟨h.len,fun k l hk=>by obtain⟨A,c,h1,h2⟩:=h.own k l hk;exact⟨A,c,h1,h2.up hb⟩,h.sep⟩
theorem QOwn.kept {B b:Nat} {W W':World} {t:TypeId} {ds:Array Value} {cs:List Value} {qs:List (List Int)} (h:QOwn B W cs qs) (hg:W.grownBy W' (some b)) (hb:BoxN W b t ds) (ht:t≠41):QOwn B W' cs qs:=
 ⟨h.len,fun k l hk=>by
  obtain⟨A,c,h1,h2⟩:=h.own k l hk
  exact⟨A,c,h1,h2.kept hg (fun x hx e=>h2.not_box hb ht (by injection e with e;rw[hx,e])) fun cs y h=>u32R_flat _ _ _ _ h⟩,h.sep⟩
theorem QOwn.lt {B:Nat} {W:World} {cs:List Value} {qs:List (List Int)} (h:QOwn B W cs qs) {j:Nat} {u:Value} (hj:cs[j]?=some u):∀x,u.ownBlock=some x→B≤x∧x<W.heap.size:=by
 intro x hx
 have hlt:j<qs.length:=by rw[←h.len];exact(List.getElem?_eq_some_iff.1 hj).1
 obtain⟨A,c,h1,h2⟩:=h.own j qs[j] (List.getElem?_eq_getElem hlt)
 rw[hj] at h1
 injection h1 with h1
 subst h1
 exact h2.lt x hx
theorem QOwn.snoc {B:Nat} {W W':World} {cs:List Value} {qs:List (List Int)} {l:List Int} {A:Option Addr} {c:Nat} (h:QOwn B W cs qs) (hb:Below W.heap.size W W') (hB:B≤W.heap.size) (ho:Own u32R 41 W.heap.size W' (.slice A l.length c) l):
 QOwn B W' (cs++[.slice A l.length c]) (qs++[l]):=by
 have hu:=h.up hb
 refine⟨by simp[h.len],fun k l' hk=> ?_,fun j k u v hjk hj hk x hx hv=> ?_⟩
 ·rcases Nat.lt_or_ge k qs.length with hl|hl
  ·rw[List.getElem?_append_left hl] at hk
   obtain⟨A',c',h1,h2⟩:=hu.own k l' hk
   exact⟨A',c',by rw[List.getElem?_append_left (by rw[h.len];exact hl)];exact h1,h2⟩
  ·rw[List.getElem?_append_right hl] at hk
   match hm:k-qs.length,hk with
   |0,hk=>
    simp at hk
    subst hk
    exact⟨A,c,by rw[List.getElem?_append_right (by rw[h.len];exact hl),h.len,hm];rfl,ho.mono hB⟩
 ·have hj':j<cs.length:=by
   have:=(List.getElem?_eq_some_iff.1 hk).1
   simp at this
   omega
  rw[List.getElem?_append_left hj'] at hj
  rcases Nat.lt_or_ge k cs.length with hl|hl
  ·rw[List.getElem?_append_left hl] at hk
   exact h.sep j k u v hjk hj hk x hx hv
  ·rw[List.getElem?_append_right hl] at hk
   match hm:k-cs.length,hk with
   |0,hk=>
    simp at hk
    subst hk
    have h1:=(ho.lt x hv).1
    have h2:=(h.lt hj x hx).2
    omega
def CopyPost (w:World) (V:Option Addr) (vc:Nat) (s:Md) (e:Ending) (w':World):Prop:=
 ∃A ac b cs,e=.returned (mdV ⟨V,vc,A,ac,some ⟨b,0,none⟩,s.qs.length⟩ s)∧Below w.heap.size w w'∧Own sxR 81 w.heap.size w' (.slice A s.seats.length ac) s.seats∧w.heap.size≤b∧BoxN w' b 85 (List.toArray cs)∧QOwn w.heap.size w' cs s.qs
set_option maxHeartbeats 4000000 in
set_option maxRecDepth 20000 in
theorem copied_any (F:MFrm) (s:Md) (w:World) (hs:IsMd w F s) (hn:s.qs.length≤1000∧(∀l,l∈s.qs→l.length≤1000)∧s.seats.length≤1000000):
 Calls Tryz.prog 63 #[mdV F s] w (CopyPost w F.V F.vc s):=by
 have C1:=Lib.hid (fun W (hb:Below w.heap.size w W)=>cloneX_any _ s.seats W (hs.seats.up hb) (by omega))
 have HS:=Lib.hid hs
 have HN:=Lib.hid hn
 have hq1:=hn.1
 clear hn hs
 obtain⟨V,vc,A,ac,Q,qc⟩:=F
 obtain⟨⟨shards,ttl,session,secs⟩,now,seats,qs⟩:=s
 unfold mdV
 simp only at C1 hq1⊢
 have K0:=Lib.hid ((BoxN.new w 31 #[.int .i64 shards,.int .i64 ttl,.int .i64 session,.slice V secs.length vc,.int .i64 now,.slice A seats.length ac,.slice Q qs.length qc]).alloc (.cells #[.int .i64 0,.int .i64 0,.int .i64 0,.slice none 0 0,.int .i64 0,.slice none 0 0,.slice none 0 0] 31))
 have J0:=Lib.hid (BoxN.new (w.alloc (.cells #[.int .i64 shards,.int .i64 ttl,.int .i64 session,.slice V secs.length vc,.int .i64 now,.slice A seats.length ac,.slice Q qs.length qc] 31)) 31 #[.int .i64 0,.int .i64 0,.int .i64 0,.slice none 0 0,.int .i64 0,.slice none 0 0,.slice none 0 0])
 rw[World.size_alloc] at J0
 have HB0:=Lib.hid (bal (o:=.cells #[.int .i64 0,.int .i64 0,.int .i64 0,.slice none 0 0,.int .i64 0,.slice none 0 0,.slice none 0 0] 31) (ba w (.cells #[.int .i64 shards,.int .i64 ttl,.int .i64 session,.slice V secs.length vc,.int .i64 now,.slice A seats.length ac,.slice Q qs.length qc] 31)))
 have hmk:=mk_qus qs.length (by omega)
 go_enter Tryz.func63,Tryz.ntmps63
 go_wp2_with fail
 refine(C1.out _ HB0.out).mono ?_
 rintro e w1 ⟨A1,c1,rfl,ho1,hb1⟩
 have HB1:=Lib.hid (bstep HB0.out hb1)
 have HO1:=Lib.hid (ho1.mono HB0.out.size)
 have K1:=Lib.hid (K0.out.later hb1)
 have J1:=Lib.hid (J0.out.later hb1)
 have c5:=K1.out.cell 5 (.slice A seats.length ac) rfl
 have c6:=K1.out.cell 6 (.slice Q qs.length qc) rfl
 have f5:=K1.out.frozen 5
 have z0:=K1.out.lt
 have z1:=J1.out.lt
 clear hb1 ho1 K0 J0
 go_wp2_with fail
 have k2:=(K1.out.set 5 (.slice A1 seats.length c1)).alloc (.cells (madeCells #[.slice none 0 0] qs.length) 85)
 have hgq:=grownBy_set w1 w.heap.size 5 (.slice A1 seats.length c1)
 have j2:=(J1.out.kept hgq (by simp)).alloc (.cells (madeCells #[.slice none 0 0] qs.length) 85)
 have o2:=(HO1.out.kept_box hgq K1.out (by decide) sxR_flat).up (ba _ (.cells (madeCells #[.slice none 0 0] qs.length) 85))
 have m2:=BoxN.new (w1.setCell ⟨w.heap.size,5,none⟩ (.slice A1 seats.length c1)) 85 (madeCells #[.slice none 0 0] qs.length)
 have hsz:(w1.setCell ⟨w.heap.size,5,none⟩ (.slice A1 seats.length c1)).heap.size=w1.heap.size:=by simp
 rw[hsz] at m2
 have m3:madeCells #[Value.slice none 0 0] qs.length=(([]:List Value)++List.replicate (qs.length-0) (Value.slice none 0 0)).toArray:=by
  apply Array.toList_inj.1
  rw[made_qus]
  simp
 rw[m3] at m2
 have hb2:=bal (o:=.cells (madeCells #[.slice none 0 0] qs.length) 85) (HB1.out.setCell (p:=⟨w.heap.size,5,none⟩) (Nat.le_refl _) (.slice A1 seats.length c1))
 have hle:=HB1.out.size
 rw[m3] at k2 j2 o2 hb2
 simp only[m3]
 refine at_world (fun W=>Below w.heap.size w W∧BoxN W w.heap.size 31 #[.int .i64 shards,.int .i64 ttl,.int .i64 session,.slice V secs.length vc,.int .i64 now,.slice A1 seats.length c1,.slice Q qs.length qc]∧BoxN W (w.heap.size+1) 31 #[.int .i64 0,.int .i64 0,.int .i64 0,.slice none 0 0,.int .i64 0,.slice none 0 0,.slice none 0 0]∧Own sxR 81 w.heap.size W (.slice A1 seats.length c1) seats∧
  BoxN W w1.heap.size 85 (([]:List Value)++List.replicate (qs.length-0) (Value.slice none 0 0)).toArray) ⟨hb2,k2,j2,o2,m2⟩ fun w2 h2=> ?_
 have H2:=Lib.hid h2
 clear h2 hb2 k2 j2 o2 m2 m3 hsz hgq c5 c6 f5 z0 z1 K1 J1 HO1 HB1 HB0 hmk C1
 generalize w1.heap.size=b at H2 hle
 clear w1
 go_loopw [17] (fun i wr=> ∃(k:Nat) (cs:List Value),k≤qs.length∧i=.int .i64 k∧Hid (Below w.heap.size w wr∧BoxN wr w.heap.size 31 #[.int .i64 shards,.int .i64 ttl,.int .i64 session,.slice V secs.length vc,.int .i64 now,.slice A1 seats.length c1,.slice Q qs.length qc]∧BoxN wr (w.heap.size+1) 31 #[.int .i64 0,.int .i64 0,.int .i64 0,.slice none 0 0,.int .i64 0,.slice none 0 0,.slice none 0 0]∧Own sxR 81 w.heap.size wr (.slice A1 seats.length c1) seats∧
  BoxN wr b 85 (cs++List.replicate (qs.length-cs.length) (Value.slice none 0 0)).toArray∧cs.length=k∧QOwn w.heap.size wr cs (qs.take k))) (fun i _=>qs.length-(intOf i).toNat)
 case atStart=>exact⟨0,[],by omega,rfl,H2.out.1,H2.out.2.1,H2.out.2.2.1,H2.out.2.2.2.1,H2.out.2.2.2.2,rfl,QOwn.nil _ _⟩
 case round=>
  obtain⟨k,cs,hk,rfl,hrel⟩:=hrel
  have HR:=Lib.hid hrel
  clear hrel H2
  by_cases hlt:k<qs.length
  ·obtain⟨g,off,A',c',rfl,hbg,e0,hin⟩:=(HS.out.qs.up HR.out.1).atQ hlt
   have C2:=Lib.hid (cloneU_any _ qs[k] wr hin (by have:=HN.out.2.1 qs[k] (List.getElem_mem hlt);omega))
   have hk0:(0:Int)≤(k:Int):=by omega
   have hk1:(k:Int)<(qs.length:Int):=by omega
   clear hin
   generalize hl:qs[k]=l at e0 C2
   have HL:=Lib.hid hl
   clear hl
   go_wp2_with fail
   refine C2.out.mono ?_
   rintro e w3 ⟨A3,c3,rfl,ho3,hb3⟩
   have hcl:=HR.out.2.2.2.2.2.1
   have m3:=HR.out.2.2.2.2.1.later hb3
   have d0:=m3.cell k (.slice none 0 0) (by rw[List.getElem?_toArray,List.getElem?_append_right (by omega),List.getElem?_replicate,if_pos (by omega)])
   have f0:=m3.frozen k
   have zb:=m3.lt
   have M3:=Lib.hid m3
   have HB3:=Lib.hid hb3
   have HO3:=Lib.hid ho3
   clear m3 hb3 ho3 e0 hbg
   go_wp2_with fail
   go_roundw
   case rel=>
    have hg:=grownBy_set w3 b k (.slice A3 l.length c3)
    have hb:=HB3.out
    have hqs:qs.take (k+1)=qs.take k++[l]:=by rw[List.take_succ_eq_append_getElem hlt,HL.out]
    refine⟨k+1,cs++[.slice A3 l.length c3],by omega,by go_num, ?_⟩
    have hq:=(HR.out.2.2.2.2.2.2.snoc hb HR.out.1.size HO3.out).kept hg M3.out (by decide)
    have hm:=M3.out.set k (.slice A3 l.length c3)
    rw[←hcl,set_next cs qs.length _ _ (by omega)] at hm
    refine⟨(bstep HR.out.1 hb).grown hg (by have:=(bstep HR.out.1 hb).size;omega) (fun x hx=>by injection hx;omega),(HR.out.2.1.later hb).kept hg (fun e=> ?_),(HR.out.2.2.1.later hb).kept hg (fun e=> ?_),(HR.out.2.2.2.1.up hb).kept_box hg M3.out (by decide) sxR_flat,by rw[←hcl];exact hm,by simp[hcl],by rw[hqs];exact hq⟩
    ·injection e with e
     exact box_ne (HR.out.2.1.later hb) M3.out (by decide) e
    ·injection e with e
     exact box_ne (HR.out.2.2.1.later hb) M3.out (by decide) e
   case measure=>simp[intOf];omega
  ·have hkk:k=qs.length:=by omega
   subst hkk
   have K3:=Lib.hid HR.out.2.1
   have J3:=Lib.hid HR.out.2.2.1
   have nq:b≠w.heap.size:=fun e=>box_ne HR.out.2.1 HR.out.2.2.2.2.1 (by decide) e.symm
   have nj:b≠w.heap.size+1:=fun e=>box_ne HR.out.2.2.1 HR.out.2.2.2.2.1 (by decide) e.symm
   have c6:=K3.out.cell 6 (.slice Q qs.length qc) rfl
   have f6:=K3.out.frozen 6
   have z0:=K3.out.lt
   have z1:=J3.out.lt
   go_upto_region 9 with fail
   have hg:=grownBy_set wr w.heap.size 6 (.slice (some ⟨b,0,none⟩) qs.length qs.length)
   have hK:BoxN (wr.setCell ⟨w.heap.size,6,none⟩ (.slice (some ⟨b,0,none⟩) qs.length qs.length)) w.heap.size 31 #[.int .i64 shards,.int .i64 ttl,.int .i64 session,.slice V secs.length vc,.int .i64 now,.slice A1 seats.length c1,.slice (some ⟨b,0,none⟩) qs.length qs.length]:=K3.out.set 6 _
   have hJ:=J3.out.kept hg (by simp)
   have hM:=HR.out.2.2.2.2.1.kept hg (by simpa using nq)
   have hO:=HR.out.2.2.2.1.kept_box hg K3.out (by decide) sxR_flat
   have hQ:=HR.out.2.2.2.2.2.2.kept hg K3.out (by decide)
   have hcl:=HR.out.2.2.2.2.2.1
   rw[hcl,Nat.sub_self,List.replicate_zero,List.append_nil] at hM
   rw[List.take_length] at hQ
   have hb:=HR.out.1.setCell (p:=⟨w.heap.size,6,none⟩) (Nat.le_refl _) (.slice (some ⟨b,0,none⟩) qs.length qs.length)
   have hall:=And.intro hb (And.intro hK (And.intro hJ (And.intro hO (And.intro hM hQ))))
   clear c6 f6 z0 z1 hg hK hJ hM hO hQ hb
   refine at_world (fun W=>Below w.heap.size w W∧BoxN W w.heap.size 31 #[.int .i64 shards,.int .i64 ttl,.int .i64 session,.slice V secs.length vc,.int .i64 now,.slice A1 seats.length c1,.slice (some ⟨b,0,none⟩) qs.length qs.length]∧BoxN W (w.heap.size+1) 31 #[.int .i64 0,.int .i64 0,.int .i64 0,.slice none 0 0,.int .i64 0,.slice none 0 0,.slice none 0 0]∧Own sxR 81 w.heap.size W (.slice A1 seats.length c1) seats∧BoxN W b 85 cs.toArray∧QOwn w.heap.size W cs qs) hall fun w4 h4=> ?_
   clear hall
   have H4:=Lib.hid h4
   clear h4
   have cc0:=H4.out.2.1.cell 0 (.int .i64 shards) rfl
   have d0:=H4.out.2.2.1.cell 0 (.int .i64 0) rfl
   have f0:=H4.out.2.2.1.frozen 0
   have cc1:=H4.out.2.1.cell 1 (.int .i64 ttl) rfl
   have d1:=H4.out.2.2.1.cell 1 (.int .i64 0) rfl
   have f1:=H4.out.2.2.1.frozen 1
   have cc2:=H4.out.2.1.cell 2 (.int .i64 session) rfl
   have d2:=H4.out.2.2.1.cell 2 (.int .i64 0) rfl
   have f2:=H4.out.2.2.1.frozen 2
   have cc3:=H4.out.2.1.cell 3 (.slice V secs.length vc) rfl
   have d3:=H4.out.2.2.1.cell 3 (.slice none 0 0) rfl
   have f3:=H4.out.2.2.1.frozen 3
   have cc4:=H4.out.2.1.cell 4 (.int .i64 now) rfl
   have d4:=H4.out.2.2.1.cell 4 (.int .i64 0) rfl
   have f4:=H4.out.2.2.1.frozen 4
   have cc5:=H4.out.2.1.cell 5 (.slice A1 seats.length c1) rfl
   have d5:=H4.out.2.2.1.cell 5 (.slice none 0 0) rfl
   have f5:=H4.out.2.2.1.frozen 5
   have cc6:=H4.out.2.1.cell 6 (.slice (some ⟨b,0,none⟩) qs.length qs.length) rfl
   have d6:=H4.out.2.2.1.cell 6 (.slice none 0 0) rfl
   have f6:=H4.out.2.2.1.frozen 6
   have z0:=H4.out.2.1.lt
   have z1:=H4.out.2.2.1.lt
   clear HR K3 J3
   go_wp2_with fail
   have b':=(((((((H4.out.2.2.1.set 0 (.int .i64 shards)).set 1 (.int .i64 ttl)).set 2 (.int .i64 session)).set 3 (.slice V secs.length vc)).set 4 (.int .i64 now)).set 5 (.slice A1 seats.length c1)).set 6 (.slice (some ⟨b,0,none⟩) qs.length qs.length))
   have hg:=grownBy_putAt [.int .i64 shards,.int .i64 ttl,.int .i64 session,.slice V secs.length vc,.int .i64 now,.slice A1 seats.length c1,.slice (some ⟨b,0,none⟩) qs.length qs.length] w4 (w.heap.size+1) 0
   simp only[putAt,Nat.zero_add,Nat.reduceAdd] at hg
   have hb':=H4.out.1.grown hg H4.out.1.size (fun x hx=>by injection hx;omega)
   have hO:=H4.out.2.2.2.1.kept_box hg H4.out.2.2.1 (by decide) sxR_flat
   have hM:=H4.out.2.2.2.2.1.kept hg (by simpa using nj)
   have hQ:=H4.out.2.2.2.2.2.kept hg H4.out.2.2.1 (by decide)
   have hall:=And.intro hb' (And.intro b' (And.intro hO (And.intro hM hQ)))
   clear b' hg hb' hO hM hQ cc0 cc1 cc2 cc3 cc4 cc5 cc6 d0 d1 d2 d3 d4 d5 d6 f0 f1 f2 f3 f4 f5 f6 z0 z1 H4
   refine at_world (fun W=>Below w.heap.size w W∧BoxN W (w.heap.size+1) 31 #[.int .i64 shards,.int .i64 ttl,.int .i64 session,.slice V secs.length vc,.int .i64 now,.slice A1 seats.length c1,.slice (some ⟨b,0,none⟩) qs.length qs.length]∧Own sxR 81 w.heap.size W (.slice A1 seats.length c1) seats∧BoxN W b 85 cs.toArray∧QOwn w.heap.size W cs qs) hall fun w5 ⟨hb',b',hO,hM,hQ⟩=> ?_
   clear hall
   have gg:=b'.x7
   exact bodyPost_ret (v:=.agg #[.int .i64 shards,.int .i64 ttl,.int .i64 session,.slice V secs.length vc,.int .i64 now,.slice A1 seats.length c1,.slice (some ⟨b,0,none⟩) qs.length qs.length]) (by simp[results,Tryz.results63,go_sem,gg]) rfl ⟨A1,c1,b,cs,rfl,hb',hO,hle,hM,hQ⟩
end Go.Proofs.YtlckmjiioohcmaaGreatDoor
namespace Go.Proofs.YtlckmjiioohcmaaGreatDoor
open Go.RowKit
def Tag (W:World) (k:Nat) (t:TypeId):Prop:=∃ds z,W.heap[k]?=some (.cells ds t z)
theorem Tag.of_box {W:World} {k:Nat} {t:TypeId} {cs:Array Value} (h:BoxN W k t cs):Tag W k t:=⟨_,_,h⟩
theorem Tag.ne {W:World} {a b:Nat} {t u:TypeId} (h:Tag W a t) (h':Tag W b u) (hne:t≠u):a≠b:=by
 intro e
 subst e
 obtain⟨_,_,h1⟩:=h
 obtain⟨_,_,h2⟩:=h'
 rw[h1] at h2
 injection h2 with h2
 injection h2 with _ ht
 exact hne ht
theorem Tag.of_own {α:Type} {R:Rep α} {e B g n c:Nat} {o:Nat} {W:World} {xs:List α} (h:Own R e B W (.slice (some ⟨g,o,none⟩) n c) xs):Tag W g e:=by
 obtain⟨_,ho,_⟩:=h
 rcases ho.2 with⟨h',_⟩|⟨g',cap',cur,h',_,hg,_⟩
 ·cases h'
 ·injection h' with h'
  injection h' with h'
  injection h' with h' _
  subst h'
  exact⟨_,_,hg⟩
theorem Tag.lt {W:World} {k:Nat} {t:TypeId} (h:Tag W k t):k<W.heap.size:=by
 obtain⟨_,_,h⟩:=h
 exact(Array.getElem?_eq_some_iff.1 h).1
def QuT (W:World) (v:Value) (l:List Int):Prop:=Sl u32R W v l∧(l≠[]→∀k,v.ownBlock=some k→Tag W k 41)
theorem QuT.up {W W':World} {v:Value} {l:List Int} (h:QuT W v l) (hb:Below W.heap.size W W'):QuT W' v l:=
 ⟨h.1.up hb,fun hl k hk=>by
  have h1:=h.2 hl k hk
  have h2:=h1.lt
  obtain⟨ds,z,h3⟩:=h1
  exact⟨ds,z,(hb.block k h2).trans h3⟩⟩
theorem QuT.kept {W W':World} {v:Value} {l:List Int} {x:Nat} {t:TypeId} (h:QuT W v l) (hg:W.grownBy W' (some x)) (hx:Tag W x t) (hne:t≠41):QuT W' v l:=by
 obtain⟨⟨A,c,rfl,hc,hm,h1⟩,h2⟩:=h
 have hblk:∀b off,A=some ⟨b,off,none⟩→l≠[]→b≠x:=fun b off e hl=>(h2 hl b (by rw[e];rfl)).ne hx (Ne.symm hne)
 refine⟨⟨A,c,rfl,hc,hm, ?_⟩,fun hl k hk=> ?_⟩
 ·rcases h1 with h1|⟨b,off,rfl,hlt,hcells⟩
  ·exact .inl h1
  ·refine .inr ⟨b,off,rfl,Nat.lt_of_lt_of_le hlt hg.size,fun i y hi=> ?_⟩
   obtain⟨cs,h3,h4⟩:=hcells i y hi
   have hl:l≠[]:=by intro e;rw[e] at hi;simp at hi
   exact⟨cs,h3,fun j u hu=>cell_grown hg (h4 j u hu) (fun e=>hblk b off rfl hl (by injection e with e;exact e.symm))⟩
 ·have h3:=h2 hl k hk
  have hkx:k≠x:=h3.ne hx (Ne.symm hne)
  have h4:=h3.lt
  obtain⟨ds,z,h5⟩:=h3
  exact⟨ds,z,(hg.block k h4 (fun e=>hkx (by injection e))).trans h5⟩
theorem QuT.of_own {B:Nat} {W:World} {v:Value} {l:List Int} (h:Own u32R 41 B W v l):QuT W v l:=by
 refine⟨h.sl,fun _ k hk=> ?_⟩
 obtain⟨_,ho,_⟩:=h
 rcases ho.2 with⟨rfl,_⟩|⟨g,cap,cur,rfl,_,hg,_⟩
 ·cases hk
 ·cases hk
  exact⟨_,_,hg⟩
theorem QuT.nil (W:World):QuT W (.slice none 0 0) []:=⟨Sl.none _ _,fun h=>absurd rfl h⟩
def offCells (V:Option Addr) (vc a ac b:Nat) (s:Md) (op:MOp) (seat:Int):List Value:=
 [.int .i64 s.ve.shards,.int .i64 s.ve.ttl,.int .i64 s.ve.session,.slice V s.ve.secs.length vc,.int .i64 s.now,.slice (some ⟨a,0,none⟩) s.seats.length ac,.slice (some ⟨b,0,none⟩) s.qs.length s.qs.length,
  .int .i64 op.kind,.int .u32 op.owner,.int .i64 op.till,.int .i64 op.seat,.int .i64 op.section_,.int .i64 op.n,.int .u32 op.to,.int .u32 op.tk.seat,.int .u32 op.tk.owner,.int .u64 op.tk.serial,.int .u64 op.tk.epoch,.int .i64 op.now,.int .i64 seat]
structure Off (w0 W:World) (g a ac b:Nat) (V:Option Addr) (vc:Nat) (cs:List Value) (s:Md) (op:MOp) (seat:Int):Prop where
 bw:Below w0.heap.size w0 W
 gB:w0.heap.size≤g
 bB:w0.heap.size≤b
 box:BoxN W g 126 (offCells V vc a ac b s op seat).toArray
 vs:Sl secR w0 (.slice V s.ve.secs.length vc) s.ve.secs
 ss:Own sxR 81 w0.heap.size W (.slice (some ⟨a,0,none⟩) s.seats.length ac) s.seats
 qb:BoxN W b 85 cs.toArray
 ql:cs.length=s.qs.length
 qq:∀(k:Nat) (l:List Int),s.qs[k]?=some l→∃A c,cs[k]?=some (.slice A l.length c)∧QuT W (.slice A l.length c) l
 bv:Bd s.ve.shards∧Bd s.ve.ttl∧Bd s.ve.session
 bn:Bd s.now
 bo:OpOk op
 bs:Bd seat
theorem Off.up {w0 W W':World} {g a ac b:Nat} {V:Option Addr} {vc:Nat} {cs:List Value} {s:Md} {op:MOp} {seat:Int} (h:Off w0 W g a ac b V vc cs s op seat) (hb:Below W.heap.size W W'):Off w0 W' g a ac b V vc cs s op seat:=
 ⟨h.bw.trans (hb.mono h.bw.size),h.gB,h.bB,h.box.later hb,h.vs,h.ss.up hb,h.qb.later hb,h.ql,fun k l hk=>by
  obtain⟨A,c,h1,h2⟩:=h.qq k l hk
  exact⟨A,c,h1,h2.up hb⟩,h.bv,h.bn,h.bo,h.bs⟩
theorem Off.aB {w0 W:World} {g a ac b:Nat} {V:Option Addr} {vc:Nat} {cs:List Value} {s:Md} {op:MOp} {seat:Int} (h:Off w0 W g a ac b V vc cs s op seat):w0.heap.size≤a∧a<W.heap.size:=⟨h.ss.block.1,h.ss.block.2.1⟩
theorem Off.ga {w0 W:World} {g a ac b:Nat} {V:Option Addr} {vc:Nat} {cs:List Value} {s:Md} {op:MOp} {seat:Int} (h:Off w0 W g a ac b V vc cs s op seat):g≠a:=(Tag.of_box h.box).ne (Tag.of_own h.ss) (by decide)
theorem Off.gb {w0 W:World} {g a ac b:Nat} {V:Option Addr} {vc:Nat} {cs:List Value} {s:Md} {op:MOp} {seat:Int} (h:Off w0 W g a ac b V vc cs s op seat):g≠b:=(Tag.of_box h.box).ne (Tag.of_box h.qb) (by decide)
theorem Off.ab {w0 W:World} {g a ac b:Nat} {V:Option Addr} {vc:Nat} {cs:List Value} {s:Md} {op:MOp} {seat:Int} (h:Off w0 W g a ac b V vc cs s op seat):a≠b:=(Tag.of_own h.ss).ne (Tag.of_box h.qb) (by decide)
structure Only3 (g a b:Nat) (W W':World):Prop where
 os:W'.os=W.os
 tape:W'.tape=W.tape
 output:W'.output=W.output
 size:W.heap.size≤W'.heap.size
 block:∀k,k<W.heap.size→k≠g→k≠a→k≠b→W'.heap[k]?=W.heap[k]?
theorem Only3.refl (g a b:Nat) (W:World):Only3 g a b W W:=⟨rfl,rfl,rfl,Nat.le_refl _,fun _ _ _ _ _=>rfl⟩
theorem Only3.trans {g a b:Nat} {W X Y:World} (h:Only3 g a b W X) (k:Only3 g a b X Y):Only3 g a b W Y:=
 ⟨k.os.trans h.os,k.tape.trans h.tape,k.output.trans h.output,Nat.le_trans h.size k.size,fun i hi h1 h2 h3=>(k.block i (Nat.lt_of_lt_of_le hi h.size) h1 h2 h3).trans (h.block i hi h1 h2 h3)⟩
theorem Only3.of (g a b:Nat) {W X:World} (h:Below W.heap.size W X):Only3 g a b W X:=⟨h.os,h.tape,h.output,h.size,fun i hi _ _ _=>h.block i hi⟩
theorem Only3.grown {g a b:Nat} {W X:World} {k:Nat} (h:W.grownBy X (some k)) (hk:k=g∨k=a∨k=b):Only3 g a b W X:=
 ⟨h.os,h.tape,h.output,h.size,fun i hi h1 h2 h3=>h.block i hi (fun e=>by cases e;omega)⟩
theorem Only3.below {g a b B:Nat} {W X:World} (h:Only3 g a b W X) (hg:B≤g) (ha:B≤a) (hb:B≤b) (hB:B≤W.heap.size):Below B W X:=
 ⟨h.os,h.tape,h.output,h.size,fun i hi=>h.block i (by omega) (by omega) (by omega) (by omega)⟩
def untilM (s:Md) (more:Int):Int:=(addT s.now more).1
theorem until_any {w0 W:World} {g a ac b:Nat} {V:Option Addr} {vc:Nat} {cs:List Value} {s:Md} {op:MOp} {seat:Int} (h:Off w0 W g a ac b V vc cs s op seat) (more:Int) (hm:Bd more):
 Calls Tryz.prog 126 #[.pointer (some ⟨g,0,none⟩),.int .i64 more] W fun e w'=>e=.returned (.int .i64 (untilM s more))∧Below W.heap.size W w':=by
 have C:=Lib.hid (fun X=>add_any s.now more X h.bn hm)
 have c4:=h.box.cell 4 (.int .i64 s.now) rfl
 have z:=h.box.lt
 unfold untilM
 generalize addT s.now more=E at C⊢
 clear h hm
 go_enter Tryz.func126,Tryz.ntmps126
 go_wp2_with fail
 refine(C.out _).mono ?_
 rintro e w1 ⟨rfl,hb1⟩
 have HB:=Lib.hid hb1
 clear hb1
 go_wp2_with fail
 go_ret
 exact⟨rfl,HB.out⟩
def setM (s:Md) (k:Nat) (x:Sx):Md:={s with seats:=s.seats.set k x}
theorem Off.set {w0 W:World} {g a ac b:Nat} {V:Option Addr} {vc:Nat} {cs:List Value} {s:Md} {op:MOp} {seat:Int} (h:Off w0 W g a ac b V vc cs s op seat) {k:Nat} (hk:k<s.seats.length) {x:Sx} (hx:SxOk x):
 Off w0 (putAt W a (k*5) (sxCells x)) g a ac b V vc cs (setM s k x) op seat∧W.grownBy (putAt W a (k*5) (sxCells x)) (some a):=by
 obtain⟨h1,hg⟩:=h.ss.put hk (x:=x) (cs:=sxCells x) ⟨rfl,hx⟩ (fun _ _ _ _ h=>h)
 have ha:=h.aB.1
 have hg':W.grownBy (putAt W a (k*5) (sxCells x)) (some a):=hg
 refine⟨⟨h.bw.grown hg' h.bw.size (fun j hj=>by injection hj with hj;omega),h.gB,h.bB, ?_,h.vs, ?_,h.qb.kept hg' (fun e=>h.ab (by injection e with e;exact e.symm)),h.ql,fun j l hj=> ?_,h.bv,h.bn,h.bo,h.bs⟩,hg'⟩
 ·have:=h.box.kept hg' (fun e=>h.ga (by injection e))
  simpa[offCells,setM] using this
 ·have h2:Own sxR 81 w0.heap.size (putAt W a (k*5) (sxCells x)) (.slice (some ⟨a,0,none⟩) s.seats.length ac) (s.seats.set k x):=h1
  simpa[setM] using h2
 ·obtain⟨A,c,h3,h4⟩:=h.qq j l hj
  exact⟨A,c,h3,h4.kept hg' (Tag.of_own h.ss) (by decide)⟩
def changeM (s:Md) (k:Nat) (x:Sx) (e:Int):Md:=if e=0 then setM s k x else s
set_option maxHeartbeats 4000000 in
theorem change_any {w0 W:World} {g a ac b:Nat} {V:Option Addr} {vc:Nat} {cs:List Value} {s:Md} {op:MOp} {k:Nat} (h:Off w0 W g a ac b V vc cs s op (k:Int)) (hk:k<s.seats.length) (x:Sx) (hx:SxOk x) (e:Int):
 Calls Tryz.prog 127 #[.pointer (some ⟨g,0,none⟩),sxV x,.int .i64 e] W fun e' w'=>e'=.returned (.int .i64 e)∧Off w0 w' g a ac b V vc cs (changeM s k x e) op (k:Int)∧Only3 g a b W w':=by
 by_cases he:e=0
 ·subst he
  have hT:changeM s k x 0=setM s k x:=by simp[changeM]
  rw[hT]
  obtain⟨hs1,hs2⟩:=h.set hk hx
  simp only[putAt,sxCells] at hs1 hs2
  have HE:=Lib.hid (And.intro ((hs1.up (ba _ (.cells #[.int .i64 x.state,.int .u32 x.owner,.int .i64 x.till,.int .u64 x.serial,.int .u64 x.epoch] 81))).up (bdd (Below.refl _ _))) (((Only3.grown (g:=g) (a:=a) (b:=b) hs2 (.inr (.inl rfl))).trans (Only3.of g a b (ba _ (.cells #[.int .i64 x.state,.int .u32 x.owner,.int .i64 x.till,.int .u64 x.serial,.int .u64 x.epoch] 81)))).trans (Only3.of g a b (bdd (Below.refl _ _)))))
  have c5:=h.box.cell 5 (.slice (some ⟨a,0,none⟩) s.seats.length ac) rfl
  have c19:=h.box.cell 19 (.int .i64 (k:Int)) rfl
  have z:=h.box.lt
  obtain⟨ds,⟨rfl,_⟩,hd,hf⟩:=h.ss.cell_ hk
  have d0:=hd 0 _ rfl
  have d1:=hd 1 _ rfl
  have d2:=hd 2 _ rfl
  have d3:=hd 3 _ rfl
  have d4:=hd 4 _ rfl
  have za:=h.aB.2
  have f0:=hf (k*5)
  have f1:=hf (k*5+1)
  have f2:=hf (k*5+2)
  have f3:=hf (k*5+3)
  have f4:=hf (k*5+4)
  have hk0:(0:Int)≤(k:Int):=by omega
  have hk1:(k:Int)<(s.seats.length:Int):=by omega
  simp only[sxR,Nat.add_zero] at d0 d1 d2 d3 d4
  clear h hs1 hs2 hd hf hx hT
  unfold sxV
  go_enter Tryz.func127,Tryz.ntmps127
  go_wp2_with fail
  go_region
  clear c5 c19 d0 d1 d2 d3 d4 f0 f1 f2 f3 f4
  go_wp2_with fail
  go_ret
  exact⟨rfl,HE.out⟩
 ·have hT:changeM s k x e=s:=by simp[changeM,he]
  rw[hT]
  have t:(e==0)=false:=by simpa using he
  have HE:=Lib.hid (h.up (ba W (.cells #[.int .i64 x.state,.int .u32 x.owner,.int .i64 x.till,.int .u64 x.serial,.int .u64 x.epoch] 81)))
  clear h hx he hT
  unfold sxV
  go_enter Tryz.func127,Tryz.ntmps127
  go_wp2_with fail
  go_ret
  exact⟨rfl,HE.out,Only3.of g a b (ba _ _)⟩
end Go.Proofs.YtlckmjiioohcmaaGreatDoor
