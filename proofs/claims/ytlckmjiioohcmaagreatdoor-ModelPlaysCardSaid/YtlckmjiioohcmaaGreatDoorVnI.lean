/-
  No statement is proved here: the data of operations and replies, and their cells. Conditions: none.
  No statement is proved here: venues and their sections as data; what the layer's functions answer. Conditions: none.
  Walks of slices.IndexFunc, slices.ContainsFunc, slices.Index, slices.Contains at numbers and at sections. Conditions: as each theorem says.
  Walk of words.Name. Conditions: as the theorem says.
  Walks of venue.outside, of the closures of venue.check, and of venue.check. Conditions: as each theorem says.
  Walk of venue.Check. Conditions: as the theorem says.
  Walks of venue.rows and of the iterator that it hands back. Conditions: as each theorem says.
  Walks of venue.rows and venue.Seats. Conditions: as each theorem says.
  Walks of venue.find and venue.Place. Conditions: as each theorem says.
  Walk of venue.Place. Conditions: as the theorem says.
  Walks of times.none, times.Add. Conditions: as each theorem says.
-/
import Derived.Test.YtlckmjiioohcmaaGreatDoorLib
import Derived.Test.YtlckmjiioohcmaaGreatDoorProg
import Derived.Test.YtlckmjiioohcmaaGreatDoorShelf
import Derived.IntWalk
import Derived.RangeFuncNested
import Derived.RangeFuncBound
import Derived.RangeFuncCalls
import Derived.RangeFuncLeaves
import Derived.Shelf.Abstract
import Derived.Shelf.RegionOpen
import Derived.WalkKit
import Derived.OwnWalkIn
import Derived.TacticsInMore
import Derived.LoopNIn
import Derived.LoopIn
namespace Go.Proofs.YtlckmjiioohcmaaGreatDoor
open Go.RowKit
structure Tk where
 seat:Int
 owner:Int
 serial:Int
 epoch:Int
deriving DecidableEq
structure MOp where
 kind:Int
 owner:Int
 till:Int
 seat:Int
 section_:Int
 n:Int
 to:Int
 tk:Tk
 now:Int
deriving DecidableEq
structure MRp where
 err:Int
 seat:Int
 n:Int
 deadline:Int
 tk:Tk
 place:Int
deriving DecidableEq
def U32 (x:Int):Prop:=0≤x∧x≤4294967295
def U64 (x:Int):Prop:=0≤x∧x≤18446744073709551615
def TkOk (t:Tk):Prop:=U32 t.seat∧U32 t.owner∧U64 t.serial∧U64 t.epoch
def OpOk (o:MOp):Prop:=Bd o.kind∧U32 o.owner∧Bd o.till∧Bd o.seat∧Bd o.section_∧Bd o.n∧U32 o.to∧TkOk o.tk∧Bd o.now
def noTk:Tk:=⟨0,0,0,0⟩
def noRp:MRp:=⟨0,0,0,0,noTk,0⟩
def tkCells (t:Tk):List Value:=[.int .u32 t.seat,.int .u32 t.owner,.int .u64 t.serial,.int .u64 t.epoch]
def opCells (o:MOp):List Value:=[.int .i64 o.kind,.int .u32 o.owner,.int .i64 o.till,.int .i64 o.seat,.int .i64 o.section_,.int .i64 o.n,.int .u32 o.to,.int .u32 o.tk.seat,.int .u32 o.tk.owner,.int .u64 o.tk.serial,.int .u64 o.tk.epoch,.int .i64 o.now]
def rpCells (r:MRp):List Value:=[.int .i64 r.err,.int .i64 r.seat,.int .i64 r.n,.int .i64 r.deadline,.int .u32 r.tk.seat,.int .u32 r.tk.owner,.int .u64 r.tk.serial,.int .u64 r.tk.epoch,.int .i64 r.place]
def tkV (t:Tk):Value:=.agg #[.int .u32 t.seat,.int .u32 t.owner,.int .u64 t.serial,.int .u64 t.epoch]
end Go.Proofs.YtlckmjiioohcmaaGreatDoor
namespace Go.Proofs.YtlckmjiioohcmaaGreatDoor
open Go.RowKit
structure Sec where
 name:ByteArray
 rows:List Int
 queue:Int
deriving DecidableEq
structure Ve where
 shards:Int
 ttl:Int
 session:Int
 secs:List Sec
deriving DecidableEq
def secR:Rep Sec where
 size:=3
 is w cs x:=∃A c,cs=[.string x.name,.slice A x.rows.length c,.int .i64 x.queue]∧Sl intR w (.slice A x.rows.length c) x.rows∧Bd x.queue∧x.name.size≤9223372036854775807
 len h:=by obtain⟨_,_,rfl,_⟩:=h;rfl
 one h:=by obtain⟨_,_,rfl,_⟩:=h;simp[Value.oneCell']
 up hb h:=by obtain⟨A,c,h1,h2,h3⟩:=h;exact⟨A,c,h1,h2.up hb,h3⟩
theorem Sl.atS {w:World} {A:Option Addr} {n c k:Nat} {xs:List Sec} (h:Sl secR w (.slice A n c) xs) (hk:k<xs.length):
 ∃b off A' c',A=some ⟨b,off,.none⟩∧b<w.heap.size∧w.cell? ⟨b,off+k*3,.none⟩=some (.string xs[k].name)∧w.cell? ⟨b,off+k*3+1,.none⟩=some (.slice A' xs[k].rows.length c')∧w.cell? ⟨b,off+k*3+2,.none⟩=some (.int .i64 xs[k].queue)∧
  Sl intR w (.slice A' xs[k].rows.length c') xs[k].rows∧Bd xs[k].queue∧xs[k].name.size≤9223372036854775807:=by
 obtain⟨b,off,cs,rfl,hb,⟨A',c',rfl,hx,hy,hz⟩,h2⟩:=h.at_ hk
 exact⟨b,off,A',c',rfl,hb,h2 0 _ rfl,h2 1 _ rfl,h2 2 _ rfl,hx,hy,hz⟩
def IsVe (w:World) (v:Value) (x:Ve):Prop:=∃A c,v=.agg #[.int .i64 x.shards,.int .i64 x.ttl,.int .i64 x.session,.slice A x.secs.length c]∧Sl secR w (.slice A x.secs.length c) x.secs∧Bd x.shards∧Bd x.ttl∧Bd x.session
def lowB (c:UInt8):Bool:=decide (97≤c.toNat)&&decide (c.toNat≤122)
def wordB (c:UInt8):Bool:=lowB c||(decide (48≤c.toNat)&&decide (c.toNat≤57))||decide (c.toNat=45)
def nameB (s:ByteArray):Bool:=decide (1≤s.size)&&decide (s.size≤16)&&lowB (s.data.toList.getD 0 0)&&s.data.toList.all wordB
def outB (n lo hi:Int):Bool:=decide (n<lo)||decide (hi<n)
def secE (x:Sec) (before:List Sec):Int:=
 if nameB x.name=false then 6 else if(before.any fun y=>y.name.toList==x.name.toList) then 8 else if x.rows.length=0 then 6 else if 16<x.rows.length then 3
 else if x.rows.any (fun n=>outB n 1 64) then 7 else if outB x.queue 0 64 then 7 else 0
def secsE (before:List Sec):List Sec→Nat→Option (Nat×Int)
 |[],_=>none
 |x::xs,i=>if secE x before≠0 then some (i,secE x before) else secsE (before++[x]) xs (i+1)
def sum:List Int→Int
 |[]=>0
 |x::l=>x+sum l
def allRows (x:Ve):List Int:=x.secs.flatMap (·.rows)
def checkV (x:Ve):Int×Int:=
 if(outB x.shards 1 16||outB x.ttl 1 1000000000||outB x.session 1 1000000000)=true then(-1,7)
 else if x.secs.length=0 then(-1,6) else if 8<x.secs.length then(-1,3)
 else match secsE [] x.secs 0 with
 |some (i,e)=>((i:Int),e)
 |none=>if 4096<sum (allRows x) then(-1,3) else(0,0)
def seatsV (x:Ve):Int×Int:=if(checkV x).2≠0 then(0,(checkV x).2) else(sum (allRows x),0)
end Go.Proofs.YtlckmjiioohcmaaGreatDoor
namespace Go.Proofs.YtlckmjiioohcmaaGreatDoor
open Go.RowKit
def idxOf {α:Type} (p:α→Bool):List α→Int
 |[]=> -1
 |x::xs=>if p x then 0 else(if idxOf p xs<0 then-1 else idxOf p xs+1)
theorem idxOf_hit {α:Type} {p:α→Bool}:∀{xs:List α} {k:Nat} (hk:k<xs.length),p xs[k]=true→(∀j,(hj:j<k)→p (xs[j]'(by omega))=false)→idxOf p xs=k
 |[],k,hk,_,_=>by simp at hk
 |x::xs,0,hk,h,_=>by simp at h;simp[idxOf,h]
 |x::xs,k+1,hk,h,hj=>by
  have h0:p x=false:=hj 0 (by omega)
  have h1:idxOf p xs=k:=idxOf_hit (by simpa using hk) (by simpa using h) fun j hjk=>by
   have:=hj (j+1) (by omega)
   simpa using this
  simp only[idxOf,h0,h1]
  rw[if_neg (by decide),if_neg (by omega)]
  rfl
theorem idxOf_miss {α:Type} {p:α→Bool}:∀{xs:List α},(∀x,x∈xs→p x=false)→idxOf p xs= -1
 |[],_=>rfl
 |x::xs,h=>by
  have h0:p x=false:=h x (by simp)
  have h1:idxOf p xs= -1:=idxOf_miss fun y hy=>h y (by simp[hy])
  simp[idxOf,h0,h1]
theorem idxOf_any {α:Type} {p:α→Bool}:∀{xs:List α},decide (0≤idxOf p xs)=xs.any p
 |[]=>rfl
 |x::xs=>by
  have ih:=idxOf_any (p:=p) (xs:=xs)
  by_cases h0:p x=true
  ·simp[idxOf,h0]
  ·simp only[Bool.not_eq_true] at h0
   simp only[idxOf,h0,List.any_cons,Bool.false_or,←ih]
   split
   ·simp_all
   ·split
    ·simp;omega
    ·simp;omega
theorem idxOf_ge {α:Type} {p:α→Bool}:∀{xs:List α},-1≤idxOf p xs∧idxOf p xs<xs.length
 |[]=>by simp[idxOf]
 |x::xs=>by
  have ih:=idxOf_ge (p:=p) (xs:=xs)
  simp only[idxOf,List.length_cons]
  split
  ·omega
  ·split<;>omega
theorem enters_fn {P:Program} {f:FuncId} {fn:Func} {c:Code} (hf:P.funcs[f]?=some fn) (hname:(fn.name== "runtime.NumGoroutine")=false) (hb:fn.body=some c) (args:Array Value) (w:World):(callFunc f args).run P w=.ok (.enter f args) w:=by
 have h1:fn.name≠ "runtime.NumGoroutine":=by simpa using hname
 simp[callFunc,hf,h1,hb,mark]
set_option maxHeartbeats 400000 in
theorem indexFuncI_any (p:Int→Bool) (g:Nat) (lb:Array Value) (eg:∀args w,(callFunc g args).run Tryz.prog w=.ok (.enter g args) w) (v:Value) (xs:List (Int)) (w:World) (hs:Sl intR w v xs)
 (hp:∀W x,Below w.heap.size w W→x∈xs→Calls Tryz.prog g (#[.int .i64 x]++lb) W fun e w'=>e=.returned (.bool (p x))∧Below W.heap.size W w'):
 Calls Tryz.prog 166 #[v,.func (.func g) #[] lb] w fun e w'=>e=.returned (.int .i64 (idxOf p xs))∧Below w.heap.size w w':=by
 obtain⟨A,c,rfl,_,hm,hs⟩:=hs.open
 have hlen:xs.length≤9223372036854775807:=by omega
 go_enter Tryz.func166,Tryz.ntmps166
 go_wp2
 go_loopw [8] (fun i wr=> ∃k:Nat,k≤xs.length∧i=.int .i64 k∧Below w.heap.size w wr∧Hid (∀j,(hj:j<k)→(hj':j<xs.length)→p xs[j]=false)) (fun i _=>xs.length-(intOf i).toNat)
 case atStart=>exact⟨0,by omega,rfl,Below.refl _ _,fun j hj=>by omega⟩
 case round=>
  obtain⟨k,hk,rfl,hb,hall⟩:=hrel
  by_cases hlt:k<xs.length
  ·obtain⟨b,off,rfl,hbl,hcell,_⟩:=(hs.up hb).atI hlt
   have hcall:=hp wr xs[k] hb (List.getElem_mem hlt)
   have HB:=Lib.hid hb
   clear hb hs
   cases hq:p xs[k] with
   |true=>
    rw[hq] at hcall
    have HQ:=Lib.hid hq
    have C:=Lib.hid hcall
    clear hq hcall hp
    go_wp2_with (refine C.out.mono ?_;rintro e w' ⟨rfl,hb1⟩)
    go_ret
    exact⟨ret_int (idxOf_hit hlt HQ.out fun j hj=>hall.out j hj (by omega)).symm,HB.out.trans (hb1.mono HB.out.size)⟩
   |false=>
    rw[hq] at hcall
    have HQ:=Lib.hid hq
    have C:=Lib.hid hcall
    clear hq hcall hp
    go_wp2_with (refine C.out.mono ?_;rintro e w' ⟨rfl,hb1⟩)
    go_roundw
    case rel=>
     refine⟨k+1,by omega,by go_num,HB.out.trans (hb1.mono HB.out.size),fun j hj hj'=> ?_⟩
     by_cases e:j=k
     ·subst e;exact HQ.out
     ·exact hall.out j (by omega) hj'
    case measure=>simp[intOf];omega
  ·have HB:=Lib.hid hb
   clear hb hs hp
   go_wp2
   go_ret
   refine⟨ret_int (idxOf_miss fun x hx=> ?_).symm,HB.out⟩
   obtain⟨j,hj,rfl⟩:=List.getElem_of_mem hx
   exact hall.out j (by omega) hj
set_option maxHeartbeats 400000 in
theorem indexFuncS_any (p:Sec→Bool) (g:Nat) (lb:Array Value) (eg:∀args w,(callFunc g args).run Tryz.prog w=.ok (.enter g args) w) (v:Value) (xs:List (Sec)) (w:World) (hs:Sl secR w v xs)
 (hp:∀W x A c,Below w.heap.size w W→x∈xs→Sl intR W (.slice A x.rows.length c) x.rows→Calls Tryz.prog g (#[.agg #[.string x.name,.slice A x.rows.length c,.int .i64 x.queue]]++lb) W fun e w'=>e=.returned (.bool (p x))∧Below W.heap.size W w'):
 Calls Tryz.prog 165 #[v,.func (.func g) #[] lb] w fun e w'=>e=.returned (.int .i64 (idxOf p xs))∧Below w.heap.size w w':=by
 obtain⟨A,c,rfl,_,hm,hs⟩:=hs.open
 have hlen:xs.length≤9223372036854775807:=by omega
 go_enter Tryz.func165,Tryz.ntmps165
 go_wp2
 go_loopw [8] (fun i wr=> ∃k:Nat,k≤xs.length∧i=.int .i64 k∧Below w.heap.size w wr∧Hid (∀j,(hj:j<k)→(hj':j<xs.length)→p xs[j]=false)) (fun i _=>xs.length-(intOf i).toNat)
 case atStart=>exact⟨0,by omega,rfl,Below.refl _ _,fun j hj=>by omega⟩
 case round=>
  obtain⟨k,hk,rfl,hb,hall⟩:=hrel
  by_cases hlt:k<xs.length
  ·obtain⟨b,off,A',c',rfl,hbl,hc0,hc1,hc2,hin,_,_⟩:=(hs.up hb).atS hlt
   have hcall:=hp wr xs[k] A' c' hb (List.getElem_mem hlt) hin
   clear hin
   have HB:=Lib.hid hb
   clear hb hs
   cases hq:p xs[k] with
   |true=>
    rw[hq] at hcall
    have HQ:=Lib.hid hq
    have C:=Lib.hid hcall
    clear hq hcall hp
    go_wp2_with (refine C.out.mono ?_;rintro e w' ⟨rfl,hb1⟩)
    go_ret
    exact⟨ret_int (idxOf_hit hlt HQ.out fun j hj=>hall.out j hj (by omega)).symm,HB.out.trans (hb1.mono HB.out.size)⟩
   |false=>
    rw[hq] at hcall
    have HQ:=Lib.hid hq
    have C:=Lib.hid hcall
    clear hq hcall hp
    go_wp2_with (refine C.out.mono ?_;rintro e w' ⟨rfl,hb1⟩)
    go_roundw
    case rel=>
     refine⟨k+1,by omega,by go_num,HB.out.trans (hb1.mono HB.out.size),fun j hj hj'=> ?_⟩
     by_cases e:j=k
     ·subst e;exact HQ.out
     ·exact hall.out j (by omega) hj'
    case measure=>simp[intOf];omega
  ·have HB:=Lib.hid hb
   clear hb hs hp
   go_wp2
   go_ret
   refine⟨ret_int (idxOf_miss fun x hx=> ?_).symm,HB.out⟩
   obtain⟨j,hj,rfl⟩:=List.getElem_of_mem hx
   exact hall.out j (by omega) hj
set_option maxHeartbeats 400000 in
theorem containsFuncI_any (p:Int→Bool) (g:Nat) (lb:Array Value) (eg:∀args w,(callFunc g args).run Tryz.prog w=.ok (.enter g args) w) (v:Value) (xs:List (Int)) (w:World) (hs:Sl intR w v xs)
 (hp:∀W x,Below w.heap.size w W→x∈xs→Calls Tryz.prog g (#[.int .i64 x]++lb) W fun e w'=>e=.returned (.bool (p x))∧Below W.heap.size W w'):
 Calls Tryz.prog 123 #[v,.func (.func g) #[] lb] w fun e w'=>e=.returned (.bool (xs.any p))∧Below w.heap.size w w':=by
 have C:=Lib.hid (indexFuncI_any p g lb eg v xs w hs hp)
 clear hp eg hs
 have h1:=Lib.hid (idxOf_any (p:=p) (xs:=xs))
 generalize idxOf p xs=r at C h1
 go_enter Tryz.func123,Tryz.ntmps123
 go_wp2_with (go_at_call 166;refine C.out.mono ?_;rintro e w' ⟨rfl,hb1⟩)
 go_ret
 exact⟨ret_bool h1.out,hb1⟩
set_option maxHeartbeats 400000 in
theorem containsFuncS_any (p:Sec→Bool) (g:Nat) (lb:Array Value) (eg:∀args w,(callFunc g args).run Tryz.prog w=.ok (.enter g args) w) (v:Value) (xs:List (Sec)) (w:World) (hs:Sl secR w v xs)
 (hp:∀W x A c,Below w.heap.size w W→x∈xs→Sl intR W (.slice A x.rows.length c) x.rows→Calls Tryz.prog g (#[.agg #[.string x.name,.slice A x.rows.length c,.int .i64 x.queue]]++lb) W fun e w'=>e=.returned (.bool (p x))∧Below W.heap.size W w'):
 Calls Tryz.prog 121 #[v,.func (.func g) #[] lb] w fun e w'=>e=.returned (.bool (xs.any p))∧Below w.heap.size w w':=by
 have C:=Lib.hid (indexFuncS_any p g lb eg v xs w hs hp)
 clear hp eg hs
 have h1:=Lib.hid (idxOf_any (p:=p) (xs:=xs))
 generalize idxOf p xs=r at C h1
 go_enter Tryz.func121,Tryz.ntmps121
 go_wp2_with (go_at_call 165;refine C.out.mono ?_;rintro e w' ⟨rfl,hb1⟩)
 go_ret
 exact⟨ret_bool h1.out,hb1⟩
end Go.Proofs.YtlckmjiioohcmaaGreatDoor
namespace Go.Proofs.YtlckmjiioohcmaaGreatDoor
open Go.RowKit Go.Shelf
def letters:List UInt8:=[97,98,99,100,101,102,103,104,105,106,107,108,109,110,111,112,113,114,115,116,117,118,119,120,121,122,48,49,50,51,52,53,54,55,56,57,45]
theorem letters_word (c:UInt8):letters.contains c=wordB c:=by
 have h:∀i:Fin 256,letters.contains (UInt8.ofNat i.val)=wordB (UInt8.ofNat i.val):=by decide+kernel
 have h1:=h ⟨c.toNat,c.toNat_lt⟩
 simpa using h1
theorem dropWhile_nil {α:Type} {p:α→Bool}:∀{l:List α},l.dropWhile p=[]↔∀x,x∈l→p x=true
 |[]=>by simp
 |x::xs=>by
  by_cases h:p x=true
  ·simp[h,dropWhile_nil (l:=xs)]
  ·simp[h]
theorem dropWhile_all {α:Type} {p:α→Bool}:∀{l:List α},(∀x,x∈l.dropWhile p→p x=true)→∀x,x∈l→p x=true
 |[],_=>by simp
 |x::xs,h=>by
  by_cases hx:p x=true
  ·rw[List.dropWhile_cons_of_pos hx] at h
   intro y hy
   rcases List.mem_cons.1 hy with rfl|hy
   ·exact hx
   ·exact dropWhile_all h y hy
  ·rw[List.dropWhile_cons_of_neg hx] at h
   exact h
theorem trim_nil (l cs:List UInt8):(Lib.trimS l cs=[])↔∀x,x∈l→cs.contains x=true:=by
 unfold Lib.trimS Lib.trimLeftS Lib.trimRightS
 rw[dropWhile_nil]
 constructor
 ·intro h x hx
  exact dropWhile_all (l:=l.reverse) (fun y hy=>h y (List.mem_reverse.2 hy)) x (List.mem_reverse.2 hx)
 ·intro h x hx
  have:l.reverse.dropWhile (fun x=>cs.contains x)=[]:=dropWhile_nil.2 fun y hy=>h y (List.mem_reverse.1 hy)
  rw[this] at hx
  simp at hx
theorem size_zero {s:ByteArray} (h:s.size=0):s.toList=[]:=by
 rw[ByteArray.toList_eq]
 exact List.eq_nil_of_length_eq_zero (by simpa using h)
theorem size_pos {s:ByteArray} (h:0<s.size):¬s.toList=[]:=by
 rw[ByteArray.toList_eq]
 intro h'
 have h1:s.data.toList.length=0:=by rw[h'];rfl
 rw[Array.length_toList] at h1
 have h2:s.size=s.data.size:=rfl
 omega
set_option maxHeartbeats 1000000 in
theorem name_any (s:ByteArray) (w:World) (hs:s.size≤9223372036854775807):
 Calls Tryz.prog 120 #[.string s] w fun e w'=>e=.returned (.bool (nameB s))∧Below w.heap.size w w':=by
 by_cases h0:0<s.size
 case neg=>
  have hE:=size_zero (s:=s) (by omega)
  have hT:=Lib.hid (show nameB s=false by simp[nameB];omega)
  go_enter Tryz.func120,Tryz.ntmps120
  go_wp2
  go_ret
  exact⟨ret_bool hT.out.symm,Below.refl _ _⟩
 have hE:=size_pos h0
 by_cases h1:16<s.size
 ·have hT:=Lib.hid (show nameB s=false by simp[nameB];omega)
  go_enter Tryz.func120,Tryz.ntmps120
  go_wp2
  go_ret
  exact⟨ret_bool hT.out.symm,Below.refl _ _⟩
 have hd:s.data.toList.getD 0 0=s[0]:=by
  rw[List.getD_eq_getElem?_getD,List.getElem?_eq_getElem (by simpa using h0)]
  rfl
 by_cases h2:(s[0].toNat:Int)<97
 ·have hT:=Lib.hid (show nameB s=false by simp only[nameB,hd,lowB];simp;omega)
  clear hd
  go_enter Tryz.func120,Tryz.ntmps120
  go_wp2
  go_ret
  exact⟨ret_bool hT.out.symm,Below.refl _ _⟩
 by_cases h3:(122:Int)<(s[0].toNat:Int)
 ·have hT:=Lib.hid (show nameB s=false by simp only[nameB,hd,lowB];simp;omega)
  clear hd
  go_enter Tryz.func120,Tryz.ntmps120
  go_wp2
  go_ret
  exact⟨ret_bool hT.out.symm,Below.refl _ _⟩
 have hcon:=Any.strings_Trim_laid Tryz.lays160 (by kernel_rfl) s ⟨#[97,98,99,100,101,102,103,104,105,106,107,108,109,110,111,112,113,114,115,116,117,118,119,120,121,122,48,49,50,51,52,53,54,55,56,57,45]⟩ w hs (by decide) (ascii_of_all (by decide))
 change Calls Tryz.prog 164 _ _ (fun e w'=>e=.returned (.string ⟨(Lib.trimS s.data.toList letters).toArray⟩)∧Below w.heap.size w w') at hcon
 have hT:=Lib.hid (show nameB s=(ByteArray.mk (Lib.trimS s.data.toList letters).toArray).toList.isEmpty by
  rw[ByteArray.toList_eq]
  simp only[nameB,hd,lowB]
  have hc:(s.data.toList.all wordB)=(Lib.trimS s.data.toList letters).isEmpty:=by
   rw[Bool.eq_iff_iff,List.all_eq_true,List.isEmpty_iff,trim_nil]
   simp only[letters_word]
  have e1:decide (1≤s.size)=true:=by simp;omega
  have e2:decide (s.size≤16)=true:=by simp;omega
  have e3:decide (97≤s[0].toNat)=true:=by simp;omega
  have e4:decide (s[0].toNat≤122)=true:=by simp;omega
  rw[e1,e2,e3,e4,hc]
  simp)
 have r0:s.toList.isEmpty=false:=by simpa using hE
 have r1:decide (16<(s.size:Int))=false:=by simp;omega
 have r2:decide ((s[0].toNat:Int)<97)=false:=by simpa using h2
 have r3:decide ((122:Int)<(s[0].toNat:Int))=false:=by simpa using h3
 clear hd h1 h2 h3 hE
 generalize(⟨(Lib.trimS s.data.toList letters).toArray⟩:ByteArray)=r at hcon hT
 go_enter Tryz.func120,Tryz.ntmps120
 go_wp2_with (go_at_call 164;refine hcon.mono ?_;rintro e w' ⟨rfl,hB⟩)
 go_ret
 exact⟨ret_bool hT.out.symm,hB⟩
end Go.Proofs.YtlckmjiioohcmaaGreatDoor
namespace Go.Proofs.YtlckmjiioohcmaaGreatDoor
open Go.RowKit
theorem outside_int (n lo hi:Int) (w:World):Calls Tryz.prog 85 #[.int .i64 n,.int .i64 lo,.int .i64 hi] w fun e w'=>e=.returned (.bool (outB n lo hi))∧w'=w:=by
 by_cases h:n<lo
 ·have hT:=Lib.hid (show outB n lo hi=true by simp[outB,h])
  go_enter Tryz.func85,Tryz.ntmps85
  go_wp2
  go_ret
  exact⟨ret_bool hT.out.symm,rfl⟩
 ·have hT:=Lib.hid (show outB n lo hi=decide (hi<n) by simp[outB,h])
  go_enter Tryz.func85,Tryz.ntmps85
  go_wp2
  go_ret
  exact⟨ret_bool hT.out.symm,rfl⟩
theorem outside_int64 (n lo hi:Int) (w:World):Calls Tryz.prog 86 #[.int .i64 n,.int .i64 lo,.int .i64 hi] w fun e w'=>e=.returned (.bool (outB n lo hi))∧w'=w:=by
 by_cases h:n<lo
 ·have hT:=Lib.hid (show outB n lo hi=true by simp[outB,h])
  go_enter Tryz.func86,Tryz.ntmps86
  go_wp2
  go_ret
  exact⟨ret_bool hT.out.symm,rfl⟩
 ·have hT:=Lib.hid (show outB n lo hi=decide (hi<n) by simp[outB,h])
  go_enter Tryz.func86,Tryz.ntmps86
  go_wp2
  go_ret
  exact⟨ret_bool hT.out.symm,rfl⟩
theorem check2_any (n:Int) (w:World):Calls Tryz.prog 124 #[.int .i64 n] w fun e w'=>e=.returned (.bool (outB n 1 64))∧Below w.heap.size w w':=by
 have C:=Lib.hid (outside_int n 1 64)
 generalize outB n 1 64=b at C
 go_enter Tryz.func124,Tryz.ntmps124
 go_wp2_with (go_at_call 85;refine(C.out _).mono ?_;rintro e w' ⟨rfl,rfl⟩)
 go_ret
 exact⟨rfl,Below.refl _ _⟩
set_option maxHeartbeats 400000 in
theorem check1_any (x:Sec) (A:Option Addr) (c B:Nat) (name:ByteArray) (w:World) (hc:w.cell? ⟨B,0,none⟩=some (.string name)):
 Calls Tryz.prog 122 #[.agg #[.string x.name,.slice A x.rows.length c,.int .i64 x.queue],.pointer (some ⟨B,0,none⟩)] w fun e w'=>e=.returned (.bool (x.name.toList==name.toList))∧Below w.heap.size w w':=by
 have hB:B<w.heap.size:=World.block_lt_of_cell? _ _ hc
 go_enter Tryz.func122,Tryz.ntmps122
 go_wp2
 go_ret
 exact⟨rfl,ba _ _⟩
set_option maxHeartbeats 1000000 in
theorem check_any (x:Sec) (A:Option Addr) (c:Nat) (v:Value) (before:List Sec) (w:World) (hr:Sl intR w (.slice A x.rows.length c) x.rows) (hb:Sl secR w v before) (hn:x.name.size≤9223372036854775807) (hrl:x.rows.length≤9223372036854775807):
 Calls Tryz.prog 87 #[.agg #[.string x.name,.slice A x.rows.length c,.int .i64 x.queue],v] w fun e w'=>e=.returned (.int .i64 (secE x before))∧Below w.heap.size w w':=by
 have eg1:=enters_fn Tryz.func122 (by kernel_rfl) rfl
 have eg2:=enters_fn Tryz.func124 (by kernel_rfl) rfl
 obtain⟨Av,cv,rfl,_,_,hb⟩:=hb.open
 have C1:=Lib.hid (fun W=>name_any x.name W hn)
 have C2:=Lib.hid (fun W (h:Below w.heap.size w W) (hc:W.cell? ⟨w.heap.size,0,none⟩=some (.string x.name))=>
  containsFuncS_any (fun y=>y.name.toList==x.name.toList) 122 #[.pointer (some ⟨w.heap.size,0,none⟩)] eg1 _ before W (hb.up h) fun W' y A' c' hb' _ _=>check1_any y A' c' w.heap.size x.name W' (by
   have:=hb'.cell (p:=⟨w.heap.size,0,none⟩) (World.block_lt_of_cell? _ _ hc)
   rw[this];exact hc))
 have C3:=Lib.hid (fun W (h:Below w.heap.size w W)=>containsFuncI_any (fun n=>outB n 1 64) 124 #[] eg2 _ x.rows W (hr.up h) fun W' n _ _=>check2_any n W')
 have C4:=Lib.hid (fun W=>outside_int x.queue 0 64 W)
 have hE:=Lib.hid (show secE x before=if nameB x.name=false then 6 else if(before.any fun y=>y.name.toList==x.name.toList) then 8 else if x.rows.length=0 then 6 else if 16<x.rows.length then 3 else if x.rows.any (fun n=>outB n 1 64) then 7 else if outB x.queue 0 64 then 7 else 0 from rfl)
 generalize nameB x.name=b1 at C1 hE
 generalize(before.any fun y=>y.name.toList==x.name.toList)=b2 at C2 hE
 generalize x.rows.any (fun n=>outB n 1 64)=b3 at C3 hE
 generalize outB x.queue 0 64=b4 at C4 hE
 generalize secE x before=E at hE⊢
 clear eg1 eg2 hr hb hn
 cases b1 with
 |false=>
  go_enter Tryz.func87,Tryz.ntmps87
  go_wp2_with fail
  refine(C1.out _).mono ?_
  rintro e w1 ⟨rfl,hb1⟩
  have k0:=box_cell hb1 0 _ rfl
  have k1:=box_cell hb1 1 _ rfl
  have k2:=box_cell hb1 2 _ rfl
  have z1:=box_lt hb1
  have hb1':Below w.heap.size w w1:=(ba _ _).trans (hb1.mono (by simp))
  go_wp2_with fail
  go_ret
  exact⟨ret_int (by rw[hE.out];simp),hb1'⟩
 |true=>
  cases b2 with
  |true=>
   go_enter Tryz.func87,Tryz.ntmps87
   go_wp2_with fail
   refine(C1.out _).mono ?_
   rintro e w1 ⟨rfl,hb1⟩
   have k0:=box_cell hb1 0 _ rfl
   have k1:=box_cell hb1 1 _ rfl
   have k2:=box_cell hb1 2 _ rfl
   have z1:=box_lt hb1
   have hb1':Below w.heap.size w w1:=(ba _ _).trans (hb1.mono (by simp))
   go_wp2_with fail
   refine(C2.out _ hb1' k0).mono ?_
   rintro e w2 ⟨rfl,hb2⟩
   have l0:=cell_later hb2 k0
   have l1:=cell_later hb2 k1
   have l2:=cell_later hb2 k2
   have z2:w.heap.size<w2.heap.size:=Nat.lt_of_lt_of_le z1 hb2.size
   have hb2':Below w.heap.size w w2:=hb1'.trans (hb2.mono hb1'.size)
   clear k0 k1 k2 z1 hb1 hb2
   go_wp2_with fail
   go_ret
   exact⟨ret_int (by rw[hE.out];simp),hb2'⟩
  |false=>
   by_cases g1:x.rows.length=0
   ·have g1':((x.rows.length:Int)==0)=true:=by simp[g1]
    go_enter Tryz.func87,Tryz.ntmps87
    go_wp2_with fail
    refine(C1.out _).mono ?_
    rintro e w1 ⟨rfl,hb1⟩
    have k0:=box_cell hb1 0 _ rfl
    have k1:=box_cell hb1 1 _ rfl
    have k2:=box_cell hb1 2 _ rfl
    have z1:=box_lt hb1
    have hb1':Below w.heap.size w w1:=(ba _ _).trans (hb1.mono (by simp))
    go_wp2_with fail
    refine(C2.out _ hb1' k0).mono ?_
    rintro e w2 ⟨rfl,hb2⟩
    have l0:=cell_later hb2 k0
    have l1:=cell_later hb2 k1
    have l2:=cell_later hb2 k2
    have z2:w.heap.size<w2.heap.size:=Nat.lt_of_lt_of_le z1 hb2.size
    have hb2':Below w.heap.size w w2:=hb1'.trans (hb2.mono hb1'.size)
    clear k0 k1 k2 z1 hb1 hb2
    go_wp2_with fail
    go_ret
    exact⟨ret_int (by rw[hE.out];simp[g1]),hb2'⟩
   have g1':((x.rows.length:Int)==0)=false:=by simpa using g1
   by_cases g2:16<x.rows.length
   ·have g2':decide (16<(x.rows.length:Int))=true:=by simp;omega
    go_enter Tryz.func87,Tryz.ntmps87
    go_wp2_with fail
    refine(C1.out _).mono ?_
    rintro e w1 ⟨rfl,hb1⟩
    have k0:=box_cell hb1 0 _ rfl
    have k1:=box_cell hb1 1 _ rfl
    have k2:=box_cell hb1 2 _ rfl
    have z1:=box_lt hb1
    have hb1':Below w.heap.size w w1:=(ba _ _).trans (hb1.mono (by simp))
    go_wp2_with fail
    refine(C2.out _ hb1' k0).mono ?_
    rintro e w2 ⟨rfl,hb2⟩
    have l0:=cell_later hb2 k0
    have l1:=cell_later hb2 k1
    have l2:=cell_later hb2 k2
    have z2:w.heap.size<w2.heap.size:=Nat.lt_of_lt_of_le z1 hb2.size
    have hb2':Below w.heap.size w w2:=hb1'.trans (hb2.mono hb1'.size)
    clear k0 k1 k2 z1 hb1 hb2
    go_wp2_with fail
    go_ret
    exact⟨ret_int (by rw[hE.out];simp[g1,g2]),hb2'⟩
   have g2':decide (16<(x.rows.length:Int))=false:=by simp;omega
   cases b3 with
   |true=>
    go_enter Tryz.func87,Tryz.ntmps87
    go_wp2_with fail
    refine(C1.out _).mono ?_
    rintro e w1 ⟨rfl,hb1⟩
    have k0:=box_cell hb1 0 _ rfl
    have k1:=box_cell hb1 1 _ rfl
    have k2:=box_cell hb1 2 _ rfl
    have z1:=box_lt hb1
    have hb1':Below w.heap.size w w1:=(ba _ _).trans (hb1.mono (by simp))
    go_wp2_with fail
    refine(C2.out _ hb1' k0).mono ?_
    rintro e w2 ⟨rfl,hb2⟩
    have l0:=cell_later hb2 k0
    have l1:=cell_later hb2 k1
    have l2:=cell_later hb2 k2
    have z2:w.heap.size<w2.heap.size:=Nat.lt_of_lt_of_le z1 hb2.size
    have hb2':Below w.heap.size w w2:=hb1'.trans (hb2.mono hb1'.size)
    clear k0 k1 k2 z1 hb1 hb2
    go_wp2_with fail
    refine(C3.out _ hb2').mono ?_
    rintro e w3 ⟨rfl,hb3⟩
    have m0:=cell_later hb3 l0
    have m1:=cell_later hb3 l1
    have m2:=cell_later hb3 l2
    have z3:w.heap.size<w3.heap.size:=Nat.lt_of_lt_of_le z2 hb3.size
    have hb3':Below w.heap.size w w3:=hb2'.trans (hb3.mono hb2'.size)
    clear l0 l1 l2 z2 hb3
    go_wp2_with fail
    go_ret
    exact⟨ret_int (by rw[hE.out];simp[g1,g2]),hb3'⟩
   |false=>
    cases b4 with
    |true=>
     go_enter Tryz.func87,Tryz.ntmps87
     go_wp2_with fail
     refine(C1.out _).mono ?_
     rintro e w1 ⟨rfl,hb1⟩
     have k0:=box_cell hb1 0 _ rfl
     have k1:=box_cell hb1 1 _ rfl
     have k2:=box_cell hb1 2 _ rfl
     have z1:=box_lt hb1
     have hb1':Below w.heap.size w w1:=(ba _ _).trans (hb1.mono (by simp))
     go_wp2_with fail
     refine(C2.out _ hb1' k0).mono ?_
     rintro e w2 ⟨rfl,hb2⟩
     have l0:=cell_later hb2 k0
     have l1:=cell_later hb2 k1
     have l2:=cell_later hb2 k2
     have z2:w.heap.size<w2.heap.size:=Nat.lt_of_lt_of_le z1 hb2.size
     have hb2':Below w.heap.size w w2:=hb1'.trans (hb2.mono hb1'.size)
     clear k0 k1 k2 z1 hb1 hb2
     go_wp2_with fail
     refine(C3.out _ hb2').mono ?_
     rintro e w3 ⟨rfl,hb3⟩
     have m0:=cell_later hb3 l0
     have m1:=cell_later hb3 l1
     have m2:=cell_later hb3 l2
     have z3:w.heap.size<w3.heap.size:=Nat.lt_of_lt_of_le z2 hb3.size
     have hb3':Below w.heap.size w w3:=hb2'.trans (hb3.mono hb2'.size)
     clear l0 l1 l2 z2 hb3
     go_wp2_with fail
     refine(C4.out _).mono ?_
     rintro e w4 ⟨rfl,rfl⟩
     go_wp2_with fail
     go_ret
     exact⟨ret_int (by rw[hE.out];simp[g1,g2]),hb3'⟩
    |false=>
     go_enter Tryz.func87,Tryz.ntmps87
     go_wp2_with fail
     refine(C1.out _).mono ?_
     rintro e w1 ⟨rfl,hb1⟩
     have k0:=box_cell hb1 0 _ rfl
     have k1:=box_cell hb1 1 _ rfl
     have k2:=box_cell hb1 2 _ rfl
     have z1:=box_lt hb1
     have hb1':Below w.heap.size w w1:=(ba _ _).trans (hb1.mono (by simp))
     go_wp2_with fail
     refine(C2.out _ hb1' k0).mono ?_
     rintro e w2 ⟨rfl,hb2⟩
     have l0:=cell_later hb2 k0
     have l1:=cell_later hb2 k1
     have l2:=cell_later hb2 k2
     have z2:w.heap.size<w2.heap.size:=Nat.lt_of_lt_of_le z1 hb2.size
     have hb2':Below w.heap.size w w2:=hb1'.trans (hb2.mono hb1'.size)
     clear k0 k1 k2 z1 hb1 hb2
     go_wp2_with fail
     refine(C3.out _ hb2').mono ?_
     rintro e w3 ⟨rfl,hb3⟩
     have m0:=cell_later hb3 l0
     have m1:=cell_later hb3 l1
     have m2:=cell_later hb3 l2
     have z3:w.heap.size<w3.heap.size:=Nat.lt_of_lt_of_le z2 hb3.size
     have hb3':Below w.heap.size w w3:=hb2'.trans (hb3.mono hb2'.size)
     clear l0 l1 l2 z2 hb3
     go_wp2_with fail
     refine(C4.out _).mono ?_
     rintro e w4 ⟨rfl,rfl⟩
     go_wp2_with fail
     go_ret
     exact⟨ret_int (by rw[hE.out];simp[g1,g2]),hb3'⟩
end Go.Proofs.YtlckmjiioohcmaaGreatDoor
namespace Go.Proofs.YtlckmjiioohcmaaGreatDoor
open Go.RowKit
theorem sum_append:∀(a b:List Int),sum (a++b)=sum a+sum b
 |[],b=>by simp[sum]
 |x::a,b=>by simp only[List.cons_append,sum];rw[sum_append a b];omega
theorem sum_snoc (a:List Int) (x:Int):sum (a++[x])=sum a+x:=by rw[sum_append];simp[sum]
theorem sum_bd {m:Int} (hm:0≤m):∀{l:List Int},(∀n,n∈l→0≤n∧n≤m)→0≤sum l∧sum l≤l.length*m
 |[],_=>by simp[sum]
 |x::l,h=>by
  have h1:=h x (by simp)
  have h2:=sum_bd hm (l:=l) fun n hn=>h n (by simp[hn])
  simp only[sum,List.length_cons]
  have h3:((l.length+1:Nat):Int)*m=l.length*m+m:=by rw[Int.natCast_add,Int.add_mul];simp
  omega
theorem secE_ok {x:Sec} {before:List Sec} (h:secE x before=0):x.rows.length≤16∧(∀n,n∈x.rows→1≤n∧n≤64)∧0≤x.queue∧x.queue≤64∧1≤x.rows.length:=by
 unfold secE at h
 split at h
 ·cases h
 split at h
 ·cases h
 split at h
 ·cases h
 split at h
 ·cases h
 split at h
 ·cases h
 split at h
 ·cases h
 ·rename_i h1 h2 h3 h4 h5 h6
  refine⟨by omega,fun n hn=> ?_, ?_, ?_,by omega⟩
  ·have h7:outB n 1 64=false:=by
    cases hb:outB n 1 64 with
    |false=>rfl
    |true=>exact absurd (List.any_eq_true.2 ⟨n,hn,hb⟩) h5
   simp[outB] at h7
   omega
  ·simp[outB] at h6;omega
  ·simp[outB] at h6;omega
theorem secsE_none:∀{xs before:List Sec} {i:Nat},(∀j,(hj:j<xs.length)→secE xs[j] (before++xs.take j)=0)→secsE before xs i=none
 |[],_,_,_=>rfl
 |x::xs,before,i,h=>by
  have h0:=h 0 (by simp)
  simp only[List.getElem_cons_zero,List.take_zero,List.append_nil] at h0
  unfold secsE
  rw[if_neg (by simp[h0])]
  refine secsE_none fun j hj=> ?_
  have:=h (j+1) (by simpa using hj)
  simpa[List.take_succ_cons] using this
theorem secsE_some:∀{xs before:List Sec} {i k:Nat} (hk:k<xs.length),(∀j,(hj:j<k)→secE (xs[j]'(by omega)) (before++xs.take j)=0)→secE xs[k] (before++xs.take k)≠0→
 secsE before xs i=some (i+k,secE xs[k] (before++xs.take k))
 |[],_,_,_,hk,_,_=>by simp at hk
 |x::xs,before,i,0,_,_,h=>by
  unfold secsE
  simp only[List.getElem_cons_zero,List.take_zero,List.append_nil] at h⊢
  rw[if_pos h]
  rfl
 |x::xs,before,i,k+1,hk,h,hne=>by
  have h0:=h 0 (by omega)
  simp only[List.getElem_cons_zero,List.take_zero,List.append_nil] at h0
  unfold secsE
  rw[if_neg (by simp[h0])]
  have h1:∀j,(hj:j<k)→secE (xs[j]'(by simp at hk;omega)) (before++[x]++xs.take j)=0:=fun j hj=>by
   have:=h (j+1) (by omega)
   simpa[List.take_succ_cons] using this
  have h2:secE (xs[k]'(by simpa using hk)) (before++[x]++xs.take k)≠0:=by simpa[List.take_succ_cons] using hne
  rw[secsE_some (by simpa using hk) h1 h2]
  simp[List.take_succ_cons]
  omega
def upTo (xs:List Sec) (k:Nat):Int:=sum ((xs.take k).flatMap (·.rows))
theorem upTo_succ {xs:List Sec} {k:Nat} (hk:k<xs.length):upTo xs (k+1)=upTo xs k+sum xs[k].rows:=by
 rw[upTo,List.take_succ_eq_append_getElem hk,List.flatMap_append,sum_append]
 simp[upTo]
theorem upTo_bd {xs:List Sec}:∀{k:Nat},k≤xs.length→(∀j,(hj:j<xs.length)→j<k→secE xs[j] (xs.take j)=0)→0≤upTo xs k∧upTo xs k≤1024*k
 |0,_,_=>by simp[upTo,sum]
 |k+1,hk,h=>by
  have ih:=upTo_bd (k:=k) (by omega) fun j hj hjk=>h j hj (by omega)
  rw[upTo_succ (by omega)]
  have h1:=secE_ok (h k (by omega) (by omega))
  have h2:=sum_bd (m:=64) (by decide) (l:=(xs[k]'(by omega)).rows) fun n hn=>by have:=h1.2.1 n hn;omega
  omega
theorem sl_first {α:Type} {R:Rep α} {w:World} {A:Option Addr} {n c j:Nat} {xs:List α} (h:Sl R w (.slice A n c) xs) (hj:j≤xs.length) (hpos:0<xs.length):Sl R w (.slice A j c) (xs.take j):=by
 obtain⟨A',c',he,h1,h2,h3⟩:=h
 injection he with e1 e2 e3
 subst e1 e2 e3
 refine⟨A,c,by rw[List.length_take,Nat.min_eq_left hj],by rw[List.length_take];omega,h2, ?_⟩
 rcases h3 with⟨_,h4⟩|⟨b,off,rfl,hb,h3⟩
 ·omega
 ·refine .inr ⟨b,off,rfl,hb,fun i x hx=>h3 i x ?_⟩
  rw[List.getElem?_take] at hx
  split at hx
  ·exact hx
  ·cases hx
set_option maxHeartbeats 2000000 in
set_option maxRecDepth 20000 in
theorem venueCheck_any (v:Value) (x:Ve) (w:World) (hv:IsVe w v x):
 Calls Tryz.prog 53 #[v] w fun e w'=>e=.returned (.tuple #[.int .i64 (checkV x).1,.int .i64 (checkV x).2])∧Below w.heap.size w w':=by
 obtain⟨A,c,rfl,hs,_,_,_⟩:=hv
 obtain⟨shards,ttl,session,secs⟩:=x
 dsimp only at hs⊢
 obtain⟨_,_,he,hcap,hm,hs⟩:=hs.open
 injection he with e1 e2 e3
 subst e1 e3
 have hl:secs.length≤9223372036854775807:=by omega
 have C1:=Lib.hid (outside_int shards 1 16)
 have C2:=Lib.hid (outside_int64 ttl 1 1000000000)
 have C3:=Lib.hid (outside_int64 session 1 1000000000)
 have hE:=Lib.hid (show checkV ⟨shards,ttl,session,secs⟩=if(outB shards 1 16||outB ttl 1 1000000000||outB session 1 1000000000)=true then(-1,7) else if secs.length=0 then(-1,6) else if 8<secs.length then(-1,3) else match secsE [] secs 0 with|some (i,e)=>((i:Int),e)|none=>if 4096<sum (secs.flatMap (·.rows)) then(-1,3) else(0,0) from rfl)
 generalize checkV ⟨shards,ttl,session,secs⟩=E at hE⊢
 generalize outB shards 1 16=b1 at C1 hE
 generalize outB ttl 1 1000000000=b2 at C2 hE
 generalize outB session 1 1000000000=b3 at C3 hE
 have HS:=Lib.hid hs
 clear hs
 cases b1 with
 |true=>
  obtain rfl:E=(-1,7):=by rw[hE.out];rfl
  go_enter Tryz.func53,Tryz.ntmps53
  go_wp2_with (go_at_call 85;refine(C1.out _).mono ?_;rintro e w' ⟨rfl,rfl⟩)
  go_ret2
  exact⟨rfl,ba _ _⟩
 |false=>
 cases b2 with
 |true=>
  obtain rfl:E=(-1,7):=by rw[hE.out];rfl
  go_enter Tryz.func53,Tryz.ntmps53
  go_wp2_with (first|(go_at_call 85;refine(C1.out _).mono ?_;rintro e w' ⟨rfl,rfl⟩)|(go_at_call 86;refine(C2.out _).mono ?_;rintro e w' ⟨rfl,rfl⟩))
  go_ret2
  exact⟨rfl,ba _ _⟩
 |false=>
 cases b3 with
 |true=>
  obtain rfl:E=(-1,7):=by rw[hE.out];rfl
  go_enter Tryz.func53,Tryz.ntmps53
  go_wp2_with (first|(go_at_call 85;refine(C1.out _).mono ?_;rintro e w' ⟨rfl,rfl⟩)|(go_at_call 86;refine(C2.out _).mono ?_;clear C2;rintro e w' ⟨rfl,rfl⟩)|(go_at_call 86;refine(C3.out _).mono ?_;rintro e w' ⟨rfl,rfl⟩))
  go_ret2
  exact⟨rfl,ba _ _⟩
 |false=>
 by_cases g1:secs.length=0
 ·have g1':((secs.length:Int)==0)=true:=by simp[g1]
  obtain rfl:E=(-1,6):=by rw[hE.out];simp[g1]
  go_enter Tryz.func53,Tryz.ntmps53
  go_wp2_with (first|(go_at_call 85;refine(C1.out _).mono ?_;rintro e w' ⟨rfl,rfl⟩)|(go_at_call 86;refine(C2.out _).mono ?_;clear C2;rintro e w' ⟨rfl,rfl⟩)|(go_at_call 86;refine(C3.out _).mono ?_;rintro e w' ⟨rfl,rfl⟩))
  go_ret2
  exact⟨rfl,ba _ _⟩
 have g1':((secs.length:Int)==0)=false:=by simpa using g1
 by_cases g2:8<secs.length
 ·have g2':decide (8<(secs.length:Int))=true:=by simp;omega
  obtain rfl:E=(-1,3):=by rw[hE.out];simp[g1,g2]
  go_enter Tryz.func53,Tryz.ntmps53
  go_wp2_with (first|(go_at_call 85;refine(C1.out _).mono ?_;rintro e w' ⟨rfl,rfl⟩)|(go_at_call 86;refine(C2.out _).mono ?_;clear C2;rintro e w' ⟨rfl,rfl⟩)|(go_at_call 86;refine(C3.out _).mono ?_;rintro e w' ⟨rfl,rfl⟩))
  go_ret2
  exact⟨rfl,ba _ _⟩
 have g2':decide (8<(secs.length:Int))=false:=by simp;omega
 replace hE:=Lib.hid (show E=match secsE [] secs 0 with|some (i,e)=>((i:Int),e)|none=>if 4096<sum (secs.flatMap (·.rows)) then(-1,3) else(0,0) by rw[hE.out,if_neg (by decide),if_neg g1,if_neg g2])
 clear g1
 go_enter Tryz.func53,Tryz.ntmps53
 go_wp2_with (first|(go_at_call 85;refine(C1.out _).mono ?_;rintro e w' ⟨rfl,rfl⟩)|(go_at_call 86;refine(C2.out _).mono ?_;clear C2;rintro e w' ⟨rfl,rfl⟩)|(go_at_call 86;refine(C3.out _).mono ?_;rintro e w' ⟨rfl,rfl⟩))
 clear e2
 have K0:=Lib.hid (Cells.new w [.int .i64 shards,.int .i64 ttl,.int .i64 session,.slice A secs.length c] 24)
 have HB0:=Lib.hid (ba w (.cells #[.int .i64 shards,.int .i64 ttl,.int .i64 session,.slice A secs.length c] 24))
 go_loopw [4,37] (fun a i wr=> ∃k:Nat,k≤secs.length∧i=.int .i64 k∧a=.int .i64 (upTo secs k)∧Hid (Below (w.alloc (.cells #[.int .i64 shards,.int .i64 ttl,.int .i64 session,.slice A secs.length c] 24)).heap.size (w.alloc (.cells #[.int .i64 shards,.int .i64 ttl,.int .i64 session,.slice A secs.length c] 24)) wr∧∀j,(hj:j<secs.length)→j<k→secE secs[j] (secs.take j)=0)) (fun _ i _=>secs.length-(intOf i).toNat)
 case atStart=>exact⟨0,by omega,rfl,rfl,Below.refl _ _,fun j _ h=>by omega⟩
 case round=>
  obtain⟨k,hk,rfl,rfl,hb⟩:=hrel
  have HBw:=Lib.hid (HB0.out.trans (hb.out.1.mono HB0.out.size))
  have K1:=Lib.hid (K0.out.later hb.out.1)
  have hU:=upTo_bd hk hb.out.2
  by_cases hlt:k<secs.length
  ·obtain⟨b,off,A',c',rfl,hbl,e0,e1,e2,hin,_,hnm⟩:=(HS.out.up HBw.out).atS hlt
   have hfirst:=Lib.hid (sl_first HS.out (j:=k) (by omega) (by omega))
   have hk0:(0:Int)≤(k:Int):=by omega
   have hk1:(k:Int)<(secs.length:Int):=by omega
   have hIN:=Lib.hid hin
   clear hin
   go_wp2_with fail
   refine at_world (fun W=>Below wr.heap.size wr W∧Cells W w.heap.size [.int .i64 shards,.int .i64 ttl,.int .i64 session,.slice (some ⟨b,off,none⟩) secs.length c]∧Cells W wr.heap.size [.string secs[k].name,.slice A' secs[k].rows.length c',.int .i64 secs[k].queue])
    ⟨ba _ _,K1.out.alloc _,Cells.new _ _ _⟩ fun W1 ⟨hb1,k1,n1⟩=> ?_
   have HB1:=Lib.hid (HBw.out.trans (hb1.mono HBw.out.size))
   have D1:=Lib.hid hb1
   have f0:=gro_cell (k1.c 3 _ rfl)
   have f1:=gro_cell (n1.c 0 _ rfl)
   have f2:=gro_cell (n1.c 1 _ rfl)
   have f3:=gro_cell (n1.c 2 _ rfl)
   have N1:=Lib.hid n1
   have hk2:(k:Int)≤(secs.length:Int):=by omega
   have hk3:(k:Int)≤(c:Int):=by omega
   obtain⟨_,_,he,_,hrm,_⟩:=hIN.out.open
   injection he with he1 _ he3
   subst he1 he3
   have C:=Lib.hid (fun W (hb:Below W1.heap.size W1 W)=>check_any secs[k] A' c' (.slice (some ⟨b,off,none⟩) k c) (secs.take k) W (hIN.out.up (D1.out.trans (hb.mono D1.out.size)))
    (hfirst.out.up (HB1.out.trans (hb.mono HB1.out.size))) hnm (by omega))
   have hq:=Lib.hid (show∀e,secE secs[k] (secs.take k)=e→e=secE secs[k] (secs.take k) from fun _ h=>h.symm)
   generalize hee:secE secs[k] (secs.take k)=ee at C
   have HEE:=Lib.hid hee
   clear hb1 k1 n1 e0 e1 e2 hee hq
   refine wp_region_gro (by kernel_rfl) (by kernel_rfl) ?_
   repeat(go_big_quiet_step (first|(go_at_call 87;exact Calls.gro_of (C.out _ (gro_below _ _)))|fail))
   refine wpQuiet_nil ?_
   rintro _ ⟨p,rfl⟩
   have hg:=gro_below W1 p
   have D2:=Lib.hid (D1.out.trans (hg.mono D1.out.size))
   have HB2:=Lib.hid (HB1.out.trans (hg.mono HB1.out.size))
   have N2:=Lib.hid (N1.out.later hg)
   clear f0 f1 f2 f3 hg
   generalize gro W1 p=W2 at D2 HB2 N2⊢
   by_cases he:ee=0
   ·have t0:(ee !=0)=false:=by simp[he]
    have n1:=N2.out.c 1 _ rfl
    have hsec:=secE_ok (HEE.out.trans he)
    have HSEC:=Lib.hid hsec
    have hrl:secs[k].rows.length≤16:=hsec.1
    clear hsec
    go_wp2_with fail
    clear n1
    go_loopw [4,55] (fun v i wi=> ∃(j:Nat) (a:Int),j≤secs[k].rows.length∧i=.int .i64 j∧v=.int .i64 a∧Hid (a=upTo secs k+sum (secs[k].rows.take j))∧wi=W2∧0≤a∧a≤10240) (fun _ i _=>secs[k].rows.length-(intOf i).toNat)
    case atStart=>exact⟨0,upTo secs k,by omega,rfl,rfl,Lib.hid (by simp[sum]),rfl,hU.1,by omega⟩
    case round=>
     obtain⟨j,a,hj,rfl,rfl,ha,rfl,ha0,ha1⟩:=hrel
     by_cases hjt:j<secs[k].rows.length
     ·obtain⟨b2,off2,rfl,hb2,e2,_⟩:=(hIN.out.up D2.out).atI hjt
      have hn:=HSEC.out.2.1 _ (List.getElem_mem hjt)
      have hj0:(0:Int)≤(j:Int):=by omega
      have hj1:(j:Int)<(secs[k].rows.length:Int):=by omega
      have hsn:=Lib.hid (show sum (secs[k].rows.take (j+1))=sum (secs[k].rows.take j)+secs[k].rows[j] by rw[List.take_succ_eq_append_getElem hjt,sum_snoc])
      have hbd:=sum_bd (m:=64) (by decide) (l:=secs[k].rows.take j) fun n hn=>by have:=HSEC.out.2.1 n (List.mem_of_mem_take hn);omega
      have hlen:((secs[k].rows.take j).length:Int)≤16:=by simp;omega
      have ha2:a≤9216:=by have:=ha.out;omega
      clear hbd hlen
      generalize hr:secs[k].rows[j]=r at e2 hn hsn
      clear hr
      go_wp2_with fail
      go_roundw
      case rel=>exact⟨j+1,a+r,by omega,by go_num,by go_num,Lib.hid (by rw[hsn.out,ha.out];omega),trivial,by omega,by omega⟩
      case measure=>simp[intOf];omega
     ·have hend:=Lib.hid (show a=upTo secs (k+1) by rw[upTo_succ hlt,ha.out,List.take_of_length_le (by omega)])
      go_wp2_with fail
      go_roundw
      case rel=>exact⟨k+1,by omega,by go_num,by rw[hend.out],hb.out.1.trans (D2.out.mono hb.out.1.size),fun j' hj' hlt'=>by
       by_cases e:j'=k
       ·subst e;exact HEE.out.trans he
       ·exact hb.out.2 j' hj' (by omega)⟩
      case measure=>simp[intOf];omega
   ·have t0:(ee !=0)=true:=by simpa using he
    obtain rfl:E=((k:Int),ee):=by
     rw[hE.out,secsE_some hlt (fun j hj=>by simpa using hb.out.2 j (by omega) hj) (by simpa[HEE.out] using he)]
     simp[HEE.out]
    go_wp2_with fail
    go_ret2
    exact⟨rfl,HB2.out⟩
  ·obtain rfl:k=secs.length:=by omega
   have hEn:=Lib.hid (show E=if 4096<upTo secs secs.length then(-1,3) else(0,0) by
    rw[hE.out,secsE_none fun j hj=>by simpa using hb.out.2 j hj (by omega),upTo,List.take_length])
   by_cases h4:4096<upTo secs secs.length
   ·obtain rfl:E=(-1,3):=by rw[hEn.out,if_pos h4]
    go_wp2_with fail
    go_ret2
    exact⟨rfl,HBw.out⟩
   ·obtain rfl:E=(0,0):=by rw[hEn.out,if_neg h4]
    go_wp2_with fail
    go_ret2
    exact⟨rfl,HBw.out⟩
end Go.Proofs.YtlckmjiioohcmaaGreatDoor
namespace Go.Proofs.YtlckmjiioohcmaaGreatDoor
open Go.RowKit Go.Shelf
attribute [local go_sem] Oper.semAt_some
structure Rw where
 sec:Int
 row:Int
 first:Int
 many:Int
def rwEnc (x:Rw):Array Value:=#[.agg #[.int .i64 x.sec,.int .i64 x.row,.int .i64 x.first,.int .i64 x.many]]
def rowsOf (i:Int):List Int→Int→Int→List Rw
 |[],_,_=>[]
 |n::l,k,f=>⟨i,k,f,n⟩::rowsOf i l (k+1) (f+n)
def rws:List Sec→Int→Int→List Rw
 |[],_,_=>[]
 |s::l,i,f=>rowsOf i s.rows 0 f++rws l (i+1) (f+sum s.rows)
theorem rowsOf_append (i:Int):∀(a b:List Int) (k f:Int),rowsOf i (a++b) k f=rowsOf i a k f++rowsOf i b (k+a.length) (f+sum a)
 |[],b,k,f=>by simp[rowsOf,sum]
 |n::a,b,k,f=>by
  simp only[List.cons_append,rowsOf,sum,List.length_cons]
  rw[rowsOf_append i a b (k+1) (f+n),show k+1+(a.length:Int)=k+((a.length+1:Nat):Int) from by omega,show f+n+sum a=f+(n+sum a) from by omega]
theorem rws_append:∀(a b:List Sec) (i f:Int),rws (a++b) i f=rws a i f++rws b (i+a.length) (f+sum (a.flatMap (·.rows)))
 |[],b,i,f=>by simp[rws,sum]
 |s::a,b,i,f=>by
  simp only[List.cons_append,rws,List.flatMap_cons,List.length_cons,List.append_assoc]
  rw[rws_append a b (i+1) (f+sum s.rows),sum_append,show i+1+(a.length:Int)=i+((a.length+1:Nat):Int) from by omega,show f+sum s.rows+sum (a.flatMap (·.rows))=f+(sum s.rows+sum (a.flatMap (·.rows))) from by omega]
def come (secs:List Sec) (i k:Nat):List Rw:=rws (secs.take i) 0 0++rowsOf i (((secs[i]?.map (·.rows)).getD []).take k) 0 (upTo secs i)
theorem come_next {secs:List Sec} {i k:Nat} (hi:i<secs.length) (hk:k<secs[i].rows.length):
 come secs i (k+1)=come secs i k++[⟨i,k,upTo secs i+sum (secs[i].rows.take k),secs[i].rows[k]⟩]:=by
 simp only[come,List.getElem?_eq_getElem hi,Option.map_some,Option.getD_some]
 rw[List.take_succ_eq_append_getElem hk,rowsOf_append]
 simp[rowsOf,Nat.min_eq_left (Nat.le_of_lt hk)]
theorem come_all {secs:List Sec} {i:Nat} (hi:i<secs.length):come secs i secs[i].rows.length=rws (secs.take (i+1)) 0 0:=by
 simp only[come,List.getElem?_eq_getElem hi,Option.map_some,Option.getD_some]
 rw[List.take_succ_eq_append_getElem hi,rws_append]
 simp[rws,upTo,Nat.min_eq_left (Nat.le_of_lt hi)]
theorem come_zero (secs:List Sec) (i:Nat):come secs i 0=rws (secs.take i) 0 0:=by simp[come,rowsOf]
theorem come_pre {secs:List Sec} {i k:Nat} (hi:i<secs.length) (hk:k≤secs[i].rows.length):∃r,rws secs 0 0=come secs i k++r:=by
 have h1:∀(k:Nat),k≤secs[i].rows.length→∃r,rws (secs.take (i+1)) 0 0=come secs i k++r:=fun k hk=>by
  rw[←come_all hi]
  simp only[come,List.getElem?_eq_getElem hi,Option.map_some,Option.getD_some,List.take_length]
  have h2:=rowsOf_append i (secs[i].rows.take k) (secs[i].rows.drop k) 0 (upTo secs i)
  rw[List.take_append_drop] at h2
  rw[h2,←List.append_assoc]
  exact⟨_,rfl⟩
 obtain⟨r,hr⟩:=h1 k hk
 have h3:=rws_append (secs.take (i+1)) (secs.drop (i+1)) 0 0
 rw[List.take_append_drop] at h3
 rw[h3,hr,List.append_assoc]
 exact⟨_,rfl⟩
def SecsOk (secs:List Sec):Prop:=secs.length≤8∧∀j,(hj:j<secs.length)→secE secs[j] (secs.take j)=0
set_option maxRecDepth 100000 in
set_option maxHeartbeats 4000000 in
theorem rows1_in (F:Fence) (n:Nat) (hF:F.fn 88) (hro:F.round=none) (hn:1≤n) (l Bn:Nat) (w0:World) (A:Option Addr) (c:Nat) (secs:List Sec) (hs:Sl secR w0 (.slice A secs.length c) secs) (hok:SecsOk secs)
 (J Jx:List Rw→World→Prop) (W:World) (hJ:AbidesFrom W.heap.size J)
 (hY:∀pre x W,J pre W→pre.length<(rws secs 0 0).length→YieldAt F (n-1) Tryz.prog l (rwEnc x) W fun e W'=>
  (e=.returned (.bool true)∧J (pre++[x]) W'∧Below w0.heap.size W W')∨(e=.returned (.bool false)∧Jx (pre++[x]) W'))
 (hb:Below w0.heap.size w0 W) (hBn:W.cell? ⟨Bn,3,none⟩=some (.slice A secs.length c)) (h0:J [] W):
 CallsIn F n Tryz.prog 88 #[.func (.yield l) #[] #[],.pointer (some ⟨Bn,0,none⟩)] W fun e W'=>(∃v,e=.returned v)∧
  ((∃ys,ys=rws secs 0 0∧J ys W')∨(∃pre,pre<+:rws secs 0 0∧Jx pre W')):=by
 have hl:secs.length≤8:=hok.1
 refine callsIn_of_wp Tryz.func88 rfl hF ?_ hro
 simp only[Tryz.ntmps88,List.size_toArray,List.length_cons,List.length_nil,Nat.reduceAdd,Nat.reduceSub,Array.replicate_succ,Array.replicate_zero,List.push_toArray,List.append_toArray,List.nil_append,List.cons_append]
 gi_wp2
 gi_loopw [3,11] (fun f i wr=> ∃k:Nat,k≤secs.length∧i=.int .i64 k∧f=.int .i64 (upTo secs k)∧Hid (Below w0.heap.size w0 wr∧Below W.heap.size W W∧W.heap.size≤wr.heap.size∧J (rws (secs.take k) 0 0) wr)) (fun _ i _=>secs.length-(intOf i).toNat)
 case atStart=>exact⟨0,by omega,rfl,rfl,hb,Below.refl _ _,Nat.le_refl _,h0⟩
 case round=>
  obtain⟨k,hk,rfl,rfl,hb1⟩:=hrel
  obtain⟨hb1,_,hz1,hJ1⟩:=hb1.out
  have hU:=upTo_bd hk fun j hj _=>hok.2 j hj
  by_cases hlt:k<secs.length
  ·obtain⟨b,off,A',c',rfl,hbl,e0,e1,e2,hin,_,_⟩:=hs.atS hlt
   have e0':=cell_later hb1 e0
   have e1':=cell_later hb1 e1
   have e2':=cell_later hb1 e2
   have hk0:(0:Int)≤(k:Int):=by omega
   have hk1:(k:Int)<(secs.length:Int):=by omega
   have hsec:=secE_ok (hok.2 k hlt)
   have HSEC:=Lib.hid hsec
   have hrl:secs[k].rows.length≤16:=hsec.1
   have HIN:=Lib.hid hin
   have H1:=Lib.hid (And.intro hb1 (And.intro hz1 hJ1))
   clear hb1 hJ1 hsec hin
   gi_wp2
   gi_loopw [3,19] (fun f i wi=> ∃(j:Nat) (a:Int),j≤secs[k].rows.length∧i=.int .i64 j∧f=.int .i64 a∧Hid (a=upTo secs k+sum (secs[k].rows.take j))∧Hid (Below w0.heap.size w0 wi∧W.heap.size≤wi.heap.size∧J (come secs k j) wi)∧0≤a∧a≤10240) (fun _ i _=>secs[k].rows.length-(intOf i).toNat)
   case atStart=>
    exact⟨0,upTo secs k,by omega,rfl,rfl,Lib.hid (by simp[sum]),Lib.hid ⟨H1.out.1.alloc H1.out.1.size _,by simp;omega,by rw[come_zero];exact hJ _ _ _ none H1.out.2.2 (World.grownBy_alloc _ _ none) (fun r e=>by cases e)⟩,hU.1,by omega⟩
   case round=>
    obtain⟨j,a,hj,rfl,rfl,ha,hbj,ha0,ha1⟩:=hrel
    obtain⟨hb2,hz2,hJ2⟩:=hbj.out
    by_cases hjt:j<secs[k].rows.length
    ·obtain⟨b2,off2,rfl,hbl2,e3,_⟩:=(HIN.out.up hb2).atI hjt
     have hn:=HSEC.out.2.1 _ (List.getElem_mem hjt)
     have hj0:(0:Int)≤(j:Int):=by omega
     have hj1:(j:Int)<(secs[k].rows.length:Int):=by omega
     have hsn:=Lib.hid (show sum (secs[k].rows.take (j+1))=sum (secs[k].rows.take j)+secs[k].rows[j] by rw[List.take_succ_eq_append_getElem hjt,sum_snoc])
     have hbd:=sum_bd (m:=64) (by decide) (l:=secs[k].rows.take j) fun n hn=>by have:=HSEC.out.2.1 n (List.mem_of_mem_take hn);omega
     have hlen:((secs[k].rows.take j).length:Int)≤16:=by simp;omega
     have ha2:a≤9216:=by have:=ha.out;omega
     clear hbd hlen
     have hcn:=come_next hlt hjt
     rw[←ha.out] at hcn
     obtain⟨r,hr⟩:=come_pre hlt (k:=j+1) (by omega)
     have hlen2:(come secs k j).length<(rws secs 0 0).length:=by rw[hr,hcn];simp
     obtain⟨fn,tmps,assign,body,hy,hR⟩:=hY (come secs k j) ⟨k,j,a,secs[k].rows[j]⟩ _ hJ2 hlen2
     simp only[rwEnc] at hy
     rw[←hcn] at hR
     have HR:=Lib.hid hr
     have HB2:=Lib.hid (And.intro hb2 hz2)
     clear hcn hr hlen2 hb2 hJ2 hz2
     generalize hrr:secs[k].rows[j]=q at e3 hn hsn hy hR
     clear hrr
     gi_wp2
     refine hR.mono ?_
     rintro e W3 (⟨rfl,hJ3,hk3⟩|⟨rfl,hJx3⟩)
     ·gi_wp2
      go_roundw
      case rel=>exact⟨j+1,a+q,by omega,by go_num,by go_num,Lib.hid (by rw[hsn.out,ha.out];omega),Lib.hid ⟨HB2.out.1.trans hk3,Nat.le_trans HB2.out.2 hk3.size,hJ3⟩,by omega,by omega⟩
      case measure=>simp[intOf];omega
     ·gi_wp2
      refine bodyPost_ret (results_none rfl _ _ _) rfl ?_
      exact⟨⟨_,rfl⟩,.inr ⟨_,⟨r,HR.out.symm⟩,hJx3⟩⟩
    ·obtain rfl:j=secs[k].rows.length:=by omega
     have hend:=Lib.hid (show a=upTo secs (k+1) by rw[upTo_succ hlt,ha.out,List.take_length])
     have H2:=Lib.hid (And.intro hb2 (And.intro hz2 hJ2))
     clear hb2 hz2 hJ2
     gi_wp2
     go_roundw
     case rel=>exact⟨k+1,by omega,by go_num,by rw[hend.out],H2.out.1,Below.refl _ _,H2.out.2.1,by rw[←come_all hlt];exact H2.out.2.2⟩
     case measure=>simp[intOf];omega
  ·obtain rfl:k=secs.length:=by omega
   rw[List.take_length] at hJ1
   gi_wp2
   go_end0
   exact⟨⟨_,rfl⟩,.inl ⟨_,rfl,hJ1⟩⟩
end Go.Proofs.YtlckmjiioohcmaaGreatDoor
namespace Go.Proofs.YtlckmjiioohcmaaGreatDoor
open Go.RowKit Go.Shelf
attribute [local go_sem] Oper.semAt_some
set_option maxHeartbeats 1000000 in
theorem rows_in (F:Fence) (n:Nat) (hF:F.fn 54) (hro:F.round=none) (a b c d:Value) (w:World):
 CallsIn F n Tryz.prog 54 #[.agg #[a,b,c,d]] w fun e w'=>e=.returned (.func (.func 88) #[] #[.pointer (some ⟨w.heap.size,0,none⟩)])∧w'=w.alloc (.cells #[a,b,c,d] 24):=by
 refine callsIn_of_wp Tryz.func54 rfl hF ?_ hro
 simp only[Tryz.ntmps54,List.size_toArray,List.length_cons,List.length_nil,Nat.reduceAdd,Nat.reduceSub,Array.replicate_succ,Array.replicate_zero,List.push_toArray,List.append_toArray,List.nil_append,List.cons_append]
 gi_wp2
 go_ret
 exact⟨rfl,rfl⟩
theorem sum_nonneg:∀{l:List Int},(∀n,n∈l→0≤n)→0≤sum l
 |[],_=>by simp[sum]
 |x::l,h=>by
  have h1:=h x (by simp)
  have h2:=sum_nonneg (l:=l) fun n hn=>h n (by simp[hn])
  simp only[sum]
  omega
theorem secsE_ok:∀{xs before:List Sec} {i:Nat},secsE before xs i=none→∀j,(hj:j<xs.length)→secE xs[j] (before++xs.take j)=0
 |[],_,_,_,j,hj=>by simp at hj
 |x::xs,before,i,h,j,hj=>by
  unfold secsE at h
  split at h
  ·cases h
  ·rename_i h0
   cases j with
   |zero=>simpa using h0
   |succ j=>
    have:=secsE_ok h j (by simpa using hj)
    simpa[List.take_succ_cons] using this
theorem secsE_ne:∀{xs before:List Sec} {i k:Nat} {e:Int},secsE before xs i=some (k,e)→e≠0
 |[],_,_,_,_,h=>by cases h
 |x::xs,before,i,k,e,h=>by
  unfold secsE at h
  split at h
  ·rename_i h0
   simp only[Option.some.injEq,Prod.mk.injEq] at h
   rw[←h.2]
   exact h0
  ·exact secsE_ne h
theorem checkV_ok {x:Ve} (h:(checkV x).2=0):SecsOk x.secs∧sum (allRows x)≤4096∧(1≤x.ttl∧x.ttl≤1000000000)∧(1≤x.session∧x.session≤1000000000):=by
 unfold checkV at h
 by_cases g1:(outB x.shards 1 16||outB x.ttl 1 1000000000||outB x.session 1 1000000000)=true
 ·rw[if_pos g1] at h
  exact absurd h (by decide)
 rw[if_neg g1] at h
 by_cases g2:x.secs.length=0
 ·rw[if_pos g2] at h
  exact absurd h (by decide)
 rw[if_neg g2] at h
 by_cases g3:8<x.secs.length
 ·rw[if_pos g3] at h
  exact absurd h (by decide)
 rw[if_neg g3] at h
 cases hm:secsE [] x.secs 0 with
 |some p=>
  obtain⟨i,e⟩:=p
  rw[hm] at h
  exact absurd h (secsE_ne hm)
 |none=>
  rw[hm] at h
  by_cases g4:4096<sum (allRows x)
  ·simp only[if_pos g4] at h
   exact absurd h (by decide)
  ·simp only[Bool.or_eq_true,not_or,Bool.not_eq_true,outB,decide_eq_false_iff_not] at g1
   exact⟨⟨by omega,fun j hj=>by simpa using secsE_ok hm j hj⟩,by omega,⟨by omega,by omega⟩,by omega,by omega⟩
def BoxN (W:World) (B:Nat) (t:TypeId) (cs:Array Value):Prop:=W.heap[B]?=some (.cells cs t (0,0))
theorem BoxN.lt {W:World} {B:Nat} {t:TypeId} {cs:Array Value} (h:BoxN W B t cs):B<W.heap.size:=(Array.getElem?_eq_some_iff.1 h).1
theorem BoxN.cell {W:World} {B:Nat} {t:TypeId} {cs:Array Value} (h:BoxN W B t cs) (i:Nat) (u:Value) (hu:cs[i]?=some u):W.cell? ⟨B,i,none⟩=some u:=by simp[World.cell?,show W.heap[B]?=_ from h,hu]
theorem BoxN.new (W:World) (t:TypeId) (cs:Array Value):BoxN (W.alloc (.cells cs t)) W.heap.size t cs:=World.alloc_heap_new W _
theorem BoxN.kept {W W':World} {row:Option Nat} {B:Nat} {t:TypeId} {cs:Array Value} (h:BoxN W B t cs) (hg:W.grownBy W' row) (hne:some B≠row):BoxN W' B t cs:=(hg.block B h.lt hne).trans h
theorem boxN_own {β:Type} (B:Nat) (t:TypeId) (f:β→Array Value):_root_.Go.Own (fun s W=>BoxN W B t (f s)):=fun s X Y row hs hg hrow=>
 hs.kept hg (fun e'=>by obtain⟨o,ho,hc⟩:=hrow B e'.symm;rw[show X.heap[B]?=_ from hs] at ho;cases ho;cases hc)
def accR (l:List Rw):Int:=l.foldl (fun s r=>wrap64 (s+r.many)) 0
theorem accR_snoc (l:List Rw) (x:Rw):accR (l++[x])=wrap64 (accR l+x.many):=by simp[accR]
theorem many_rowsOf (i:Int):∀(l:List Int) (k f:Int),(rowsOf i l k f).map (·.many)=l
 |[],_,_=>rfl
 |n::l,k,f=>by simp[rowsOf,many_rowsOf i l]
theorem many_rws:∀(l:List Sec) (i f:Int),(rws l i f).map (·.many)=l.flatMap (·.rows)
 |[],_,_=>rfl
 |s::l,i,f=>by simp[rws,many_rowsOf,many_rws l]
theorem accR_eq:∀(n:Nat) (l:List Rw),l.length=n→(∀x,x∈l→0≤x.many)→sum (l.map (·.many))≤9223372036854775807→accR l=sum (l.map (·.many)):=by
 intro n
 induction n with
 |zero=>intro l hl _ _;rw[List.eq_nil_of_length_eq_zero hl];rfl
 |succ n ih=>
  intro l hl hp hs
  have hne:l≠[]:=by intro h;rw[h] at hl;simp at hl
  obtain⟨a,x,rfl⟩:∃a x,l=a++[x]:=⟨l.dropLast,l.getLast hne,(List.dropLast_concat_getLast hne).symm⟩
  have h1:=hp x (by simp)
  rw[List.map_append,sum_append] at hs⊢
  simp only[List.map_cons,List.map_nil,sum,Int.add_zero] at hs⊢
  have h2:0≤sum (a.map (·.many)):=(sum_nonneg fun n hn=>by
   obtain⟨y,hy,rfl⟩:=List.mem_map.1 hn
   exact hp y (by simp[hy]))
  rw[accR_snoc,ih a (by simpa using hl) (fun y hy=>hp y (by simp[hy])) (by omega)]
  unfold wrap64
  omega
theorem seats_acc {secs:List Sec} (hok:SecsOk secs) (hs:sum (secs.flatMap (·.rows))≤4096):accR (rws secs 0 0)=sum (secs.flatMap (·.rows)):=by
 rw[accR_eq _ _ rfl (fun x hx=> ?_) (by rw[many_rws];omega),many_rws]
 have h1:x.many∈(rws secs 0 0).map (·.many):=List.mem_map.2 ⟨x,hx,rfl⟩
 rw[many_rws] at h1
 obtain⟨s,hs,hn⟩:=List.mem_flatMap.1 h1
 obtain⟨j,hj,rfl⟩:=List.getElem_of_mem hs
 have:=(secE_ok (hok.2 j hj)).2.1 _ hn
 omega
set_option maxHeartbeats 4000000 in
set_option maxRecDepth 100000 in
theorem seats_any (v:Value) (x:Ve) (w:World) (hv:IsVe w v x):
 Calls Tryz.prog 28 #[v] w fun e w'=>e=.returned (.tuple #[.int .i64 (seatsV x).1,.int .i64 (seatsV x).2])∧Below w.heap.size w w':=by
 have C1:=Lib.hid (fun W (hb:Below w.heap.size w W)=>venueCheck_any v x W (by obtain⟨A,c,h1,h2,h3⟩:=hv;exact⟨A,c,h1,h2.up hb,h3⟩))
 obtain⟨A,c,rfl,hs,_,_,_⟩:=hv
 have hE:=Lib.hid (show seatsV x=if(checkV x).2≠0 then(0,(checkV x).2) else(sum (allRows x),0) from rfl)
 have hok:=Lib.hid (fun h=>checkV_ok (x:=x) h)
 generalize hcv:checkV x=E at C1 hE hok
 obtain⟨E1,E2⟩:=E
 simp only at C1 hE hok
 clear hcv
 refine(callsIn_wide (n:=6)).1 ?_
 refine callsIn_of_wp_marks Tryz.func28 rfl trivial ?_ rfl
 simp only[Tryz.ntmps28,List.size_toArray,List.length_cons,List.length_nil,Nat.reduceAdd,Nat.reduceSub,Array.replicate_succ,Array.replicate_zero,List.push_toArray,List.append_toArray,List.nil_append,List.cons_append]
 by_cases h:E2=0
 case neg=>
  have t0:(E2 !=0)=true:=by simpa using h
  gi_wp2
  refine⟨trivial, ?_⟩
  refine(callsIn_wide.2 (C1.out _ (bal (ba _ _)))).mono ?_
  rintro e w1 ⟨rfl,hb1⟩
  have k0:=((Cells.new (w.alloc (.cells #[.int .i64 x.shards,.int .i64 x.ttl,.int .i64 x.session,.slice A x.secs.length c] 24)) [.int .i64 0] 3).later hb1)
  have c0:=k0.c 0 _ rfl
  have f0:=k0.f 0
  have y0:=k0.lt
  simp only[World.size_alloc] at c0 f0 y0
  have c1:=((Cells.new w [.int .i64 x.shards,.int .i64 x.ttl,.int .i64 x.session,.slice A x.secs.length c] 24).alloc (.cells #[.int .i64 0] 3)).later hb1
  gi_wp2
  refine⟨.tuple #[.int .i64 0,.int .i64 E2], ?_,by rw[hE.out,if_pos h], ?_⟩
  ·have h0:(w1.setCell ⟨w.heap.size+1,0,none⟩ (.int .i64 0)).cell? ⟨w.heap.size+1,0,none⟩=some (.int .i64 0):=World.cell?_setCell_same' _ _ _ (by rw[c0];rfl)
   simp[results,Tryz.results28,go_sem,h0]
  ·have h1:Below w.heap.size w w1:=(bal (ba w _)).trans (hb1.mono (bal (ba w _)).size)
   exact h1.grown (grownBy_set w1 (w.heap.size+1) 0 _) h1.size (fun k hk=>by injection hk;omega)
 subst h
 gi_wp2
 refine⟨trivial, ?_⟩
 refine(callsIn_wide.2 (C1.out _ (bal (ba _ _)))).mono ?_
 rintro e w1 ⟨rfl,hb1⟩
 have bN:Boxed w1 (w.heap.size+1) 3 (.int .i64 0):=by
  have h:=(Boxed.new (w.alloc (.cells #[.int .i64 x.shards,.int .i64 x.ttl,.int .i64 x.session,.slice A x.secs.length c] 24)) 3 (.int .i64 0))
  simp only[World.size_alloc] at h
  exact(hb1.block (w.heap.size+1) (by simp)).trans h
 have K1:=((Cells.new w [.int .i64 x.shards,.int .i64 x.ttl,.int .i64 x.session,.slice A x.secs.length c] 24).alloc (.cells #[.int .i64 0] 3)).later hb1
 have hbw:Below w.heap.size w w1:=(bal (ba w _)).trans (hb1.mono (bal (ba w _)).size)
 have c0:=K1.c 0 _ rfl
 have c1:=K1.c 1 _ rfl
 have c2:=K1.c 2 _ rfl
 have c3:=K1.c 3 _ rfl
 have hz:=K1.lt
 have hz2:w.heap.size+1<w1.heap.size:=bN.lt
 gi_wp2
 refine⟨trivial, ?_⟩
 refine(rows_in _ _ trivial rfl _ _ _ _ _).mono ?_
 rintro e w2 ⟨rfl,rfl⟩
 gi_wp2
 have hbw2:Below w.heap.size w (w1.alloc (.cells #[.int .i64 x.shards,.int .i64 x.ttl,.int .i64 x.session,.slice A x.secs.length c] 24)):=bal hbw
 obtain⟨hok,hsum,_⟩:=hok.out (by trivial)
 have hBn:=(Cells.new w1 [.int .i64 x.shards,.int .i64 x.ttl,.int .i64 x.session,.slice A x.secs.length c] 24).c 3 _ rfl
 have bN2:=bN.alloc (.cells #[.int .i64 x.shards,.int .i64 x.ttl,.int .i64 x.session,.slice A x.secs.length c] 24)
 obtain⟨W0,hW0⟩:∃W0,w1.alloc (.cells #[.int .i64 x.shards,.int .i64 x.ttl,.int .i64 x.session,.slice A x.secs.length c] 24)=W0:=⟨_,rfl⟩
 have hBn':w1.heap.size<W0.heap.size:=by rw[←hW0];simp
 rw[show(List.toArray [Value.int .i64 x.shards,.int .i64 x.ttl,.int .i64 x.session,.slice A x.secs.length c])=#[Value.int .i64 x.shards,.int .i64 x.ttl,.int .i64 x.session,.slice A x.secs.length c] from rfl] at hBn
 rw[hW0] at hbw2 hBn bN2⊢
 clear hW0 c0 c1 c2 c3 K1 bN hbw hb1
 have hZ:w.heap.size≤W0.heap.size:=hbw2.size
 refine wpIn_rangeFunc_ownH rfl (by decide) (gf:=88) (lb:=#[.pointer (some ⟨w1.heap.size,0,none⟩)]) rfl trivial (enters_of Tryz.func88 (by kernel_rfl) rfl)
  (encs:=rwEnc) (Kp:=Below w.heap.size) (S:=fun ys=>ys=rws x.secs 0 0) (Sp:=fun pre=>pre<+:rws x.secs 0 0) (N:=(rws x.secs 0 0).length) (w0:=W0)
  (fun l J Jx W hW hJ _ hY h0=>rows1_in _ _ trivial rfl (by decide) l w1.heap.size w A c x.secs hs hok J Jx W hJ hY (hbw2.trans (hW.mono hZ)) (cell_later hW hBn) h0)
  belowK_t (belowK_b hZ) (Below.refl _ _) (fun _=>rfl)
  (fun pre W=>Boxed W (w.heap.size+1) 3 (.int .i64 (accR pre))∧Below w.heap.size w W)
  (fun _ _ _=>False)
  (OwnFrom.and (_root_.Go.Own.from (boxed_own _ _ _) _) (ownFrom_below (Nat.le_refl _) hZ))
  (fun _ _ _ _ _ hs _ _=>hs)
  ⟨bN2,hbw2⟩
  (fun y a' W=> ∃Bx,w.heap.size+1<Bx∧BoxN W Bx 113 #[.int .i64 y.sec,.int .i64 y.row,.int .i64 y.first,.int .i64 y.many]∧a'={tmps:=#[.agg #[.int .i64 x.shards,.int .i64 x.ttl,.int .i64 x.session,.slice A x.secs.length c],.pointer (some ⟨w.heap.size,0,none⟩),.pointer (some ⟨w.heap.size+1,0,none⟩),.int .i64 0,.int .i64 E1,.int .i64 0,.pointer (some ⟨Bx,0,none⟩),.tuple #[.int .i64 E1,.int .i64 0],.agg #[.int .i64 x.shards,.int .i64 x.ttl,.int .i64 x.session,.slice A x.secs.length c],.tuple #[.int .i64 E1,.int .i64 0],.int .i64 E1,.int .i64 0,.int .i64 0,.bool false,undef,.agg #[.int .i64 x.shards,.int .i64 x.ttl,.int .i64 x.session,.slice A x.secs.length c],.func (.func 88) #[] #[.pointer (some ⟨w1.heap.size,0,none⟩)],.agg #[.int .i64 y.sec,.int .i64 y.row,.int .i64 y.first,.int .i64 y.many],undef,undef,undef,undef,undef],defers:=[]})
  (fun y a' _ X Y row hs hg hr=>by obtain⟨Bx,h1,h2,h3⟩:=hs;exact⟨Bx,h1,boxN_own Bx 113 (fun(_:Unit)=>#[.int .i64 y.sec,.int .i64 y.row,.int .i64 y.first,.int .i64 y.many]) () X Y row h2 hg (fun r e=>(hr r e).2),h3⟩)
  ?assign ?body ?done ?stop
 case assign=>
  rintro l pre y W K ⟨bS1,hB1⟩ hK
  simp only[rwEnc]
  gi_wp2
  exact hK _ _ ((KeepsOthers.alloc _ _).from _) ((Below.refl _ W).alloc hB1.size _) ⟨bS1.alloc _,hB1.alloc hB1.size _⟩ ⟨W.heap.size,bS1.lt,BoxN.new W 113 _,rfl⟩
 case body=>
  rintro l pre y a' W hl _ ⟨bS1,hB1⟩ ⟨Bx,hBx,bX,rfl⟩ hlt
  have cS:=bS1.cell
  have fS:=bS1.frozen
  have cX:=bX.cell 3 _ rfl
  gi_wp2
  exact⟨(KeepsOthers.setCell _ _ _).from _,(Below.refl _ W).setCell (p:=⟨w.heap.size+1,0,none⟩) (by simp) _,by rw[accR_snoc];exact bS1.set _,hB1.setCell (p:=⟨w.heap.size+1,0,none⟩) (by simp) _⟩
 case done=>
  rintro D zs W hD rfl ⟨bS1,hB1⟩ hK
  have cS:=bS1.cell
  have fS:=bS1.frozen
  rw[seats_acc hok hsum] at cS bS1
  gi_wp2
  have hK':=(KeepsOthers.setCell W ⟨w.heap.size+1,0,none⟩ (.int .i64 (sum (x.secs.flatMap (·.rows))))).same D _ hK rfl
  refine⟨by simp,.inl ⟨_,_,rfl,run_takeDeferred hK', ?_⟩⟩
  have b2:=bS1.set (.int .i64 (sum (x.secs.flatMap (·.rows))))
  have hB2:Below w.heap.size w (W.setCell ⟨w.heap.size+1,0,none⟩ (.int .i64 (sum (x.secs.flatMap (·.rows))))):=hB1.setCell (p:=⟨w.heap.size+1,0,none⟩) (by simp) _
  have h0:=cell_kept b2.cell (grownBy_putObj' _ D (.deferred none)) (fun r e=>by cases e;exact⟨_,hK',rfl⟩)
  refine⟨.tuple #[.int .i64 (sum (x.secs.flatMap (·.rows))),.int .i64 0],by simp[results,Tryz.results28,go_sem,h0],by rw[hE.out,if_neg (by simp)];rfl,hB2.trans (belowK_b (w:=w) (Nat.le_refl _) _ D _ _ (by omega) hK' rfl rfl)⟩
 case stop=>
  rintro D c pre W _ _ h _
  exact h.elim
end Go.Proofs.YtlckmjiioohcmaaGreatDoor
namespace Go.Proofs.YtlckmjiioohcmaaGreatDoor
open Go.RowKit Go.Shelf
attribute [local go_sem] Oper.semAt_some
def hit (seat:Int) (y:Rw):Bool:=decide (y.first≤seat)&&decide (seat<wrap64 (y.first+y.many))
def noRw:Rw:=⟨0,0,0,0⟩
def findV (x:Ve) (seat:Int):Rw×Int:=if(checkV x).2≠0 then(noRw,(checkV x).2) else match(rws x.secs 0 0).find? (hit seat) with
 |some y=>(y,0)
 |none=>(noRw,4)
theorem BoxN.set {W:World} {B:Nat} {t:TypeId} {cs:Array Value} (h:BoxN W B t cs) (i:Nat) (u:Value):BoxN (W.setCell ⟨B,i,none⟩ u) B t (cs.setIfInBounds i u):=by
 obtain⟨hlt,hk⟩:=Array.getElem?_eq_some_iff.1 h
 show(W.heap.modify B _)[B]?=_
 rw[Array.getElem?_eq_getElem (by rw[Array.size_modify];exact hlt),Array.getElem_modify_self,hk]
 rfl
theorem BoxN.set4 {W:World} {B:Nat} {t:TypeId} {a b c d:Value} (h:BoxN W B t #[a,b,c,d]) (a' b' c' d':Value):
 BoxN ((((W.setCell ⟨B,0,none⟩ a').setCell ⟨B,1,none⟩ b').setCell ⟨B,2,none⟩ c').setCell ⟨B,3,none⟩ d') B t #[a',b',c',d']:=by
 have h1:=(((h.set 0 a').set 1 b').set 2 c').set 3 d'
 simpa using h1
theorem BoxN.other {W:World} {B B' i:Nat} {t:TypeId} {cs:Array Value} (h:BoxN W B t cs) (hne:B≠B') (u:Value):BoxN (W.setCell ⟨B',i,none⟩ u) B t cs:=h.kept (grownBy_set W B' i u) (fun e=>hne (by cases e;rfl))
theorem BoxN.frozen {W:World} {B:Nat} {t:TypeId} {cs:Array Value} (h:BoxN W B t cs) (i:Nat):W.frozen? ⟨B,i,none⟩=false:=by simp[World.frozen?,show W.heap[B]?=_ from h]
theorem BoxN.x4 {W:World} {B:Nat} {t:TypeId} {v0 v1 v2 v3:Value} (h:BoxN W B t #[v0,v1,v2,v3]):W.cell? ⟨B,0,none⟩=some v0∧W.frozen? ⟨B,0,none⟩=false∧W.cell? ⟨B,1,none⟩=some v1∧W.frozen? ⟨B,1,none⟩=false∧W.cell? ⟨B,2,none⟩=some v2∧W.frozen? ⟨B,2,none⟩=false∧W.cell? ⟨B,3,none⟩=some v3∧W.frozen? ⟨B,3,none⟩=false∧B<W.heap.size:=⟨h.cell 0 _ rfl,h.frozen 0,h.cell 1 _ rfl,h.frozen 1,h.cell 2 _ rfl,h.frozen 2,h.cell 3 _ rfl,h.frozen 3,h.lt⟩
theorem BoxN.x5 {W:World} {B:Nat} {t:TypeId} {v0 v1 v2 v3 v4:Value} (h:BoxN W B t #[v0,v1,v2,v3,v4]):W.cell? ⟨B,0,none⟩=some v0∧W.frozen? ⟨B,0,none⟩=false∧W.cell? ⟨B,1,none⟩=some v1∧W.frozen? ⟨B,1,none⟩=false∧W.cell? ⟨B,2,none⟩=some v2∧W.frozen? ⟨B,2,none⟩=false∧W.cell? ⟨B,3,none⟩=some v3∧W.frozen? ⟨B,3,none⟩=false∧W.cell? ⟨B,4,none⟩=some v4∧W.frozen? ⟨B,4,none⟩=false∧B<W.heap.size:=⟨h.cell 0 _ rfl,h.frozen 0,h.cell 1 _ rfl,h.frozen 1,h.cell 2 _ rfl,h.frozen 2,h.cell 3 _ rfl,h.frozen 3,h.cell 4 _ rfl,h.frozen 4,h.lt⟩
theorem BoxN.x7 {W:World} {B:Nat} {t:TypeId} {v0 v1 v2 v3 v4 v5 v6:Value} (h:BoxN W B t #[v0,v1,v2,v3,v4,v5,v6]):W.cell? ⟨B,0,none⟩=some v0∧W.frozen? ⟨B,0,none⟩=false∧W.cell? ⟨B,1,none⟩=some v1∧W.frozen? ⟨B,1,none⟩=false∧W.cell? ⟨B,2,none⟩=some v2∧W.frozen? ⟨B,2,none⟩=false∧W.cell? ⟨B,3,none⟩=some v3∧W.frozen? ⟨B,3,none⟩=false∧W.cell? ⟨B,4,none⟩=some v4∧W.frozen? ⟨B,4,none⟩=false∧W.cell? ⟨B,5,none⟩=some v5∧W.frozen? ⟨B,5,none⟩=false∧W.cell? ⟨B,6,none⟩=some v6∧W.frozen? ⟨B,6,none⟩=false∧B<W.heap.size:=⟨h.cell 0 _ rfl,h.frozen 0,h.cell 1 _ rfl,h.frozen 1,h.cell 2 _ rfl,h.frozen 2,h.cell 3 _ rfl,h.frozen 3,h.cell 4 _ rfl,h.frozen 4,h.cell 5 _ rfl,h.frozen 5,h.cell 6 _ rfl,h.frozen 6,h.lt⟩
theorem BoxN.x9 {W:World} {B:Nat} {t:TypeId} {v0 v1 v2 v3 v4 v5 v6 v7 v8:Value} (h:BoxN W B t #[v0,v1,v2,v3,v4,v5,v6,v7,v8]):W.cell? ⟨B,0,none⟩=some v0∧W.frozen? ⟨B,0,none⟩=false∧W.cell? ⟨B,1,none⟩=some v1∧W.frozen? ⟨B,1,none⟩=false∧W.cell? ⟨B,2,none⟩=some v2∧W.frozen? ⟨B,2,none⟩=false∧W.cell? ⟨B,3,none⟩=some v3∧W.frozen? ⟨B,3,none⟩=false∧W.cell? ⟨B,4,none⟩=some v4∧W.frozen? ⟨B,4,none⟩=false∧W.cell? ⟨B,5,none⟩=some v5∧W.frozen? ⟨B,5,none⟩=false∧W.cell? ⟨B,6,none⟩=some v6∧W.frozen? ⟨B,6,none⟩=false∧W.cell? ⟨B,7,none⟩=some v7∧W.frozen? ⟨B,7,none⟩=false∧W.cell? ⟨B,8,none⟩=some v8∧W.frozen? ⟨B,8,none⟩=false∧B<W.heap.size:=⟨h.cell 0 _ rfl,h.frozen 0,h.cell 1 _ rfl,h.frozen 1,h.cell 2 _ rfl,h.frozen 2,h.cell 3 _ rfl,h.frozen 3,h.cell 4 _ rfl,h.frozen 4,h.cell 5 _ rfl,h.frozen 5,h.cell 6 _ rfl,h.frozen 6,h.cell 7 _ rfl,h.frozen 7,h.cell 8 _ rfl,h.frozen 8,h.lt⟩
theorem BoxN.one {W:World} {B:Nat} {t:TypeId} {v:Value} (h:Boxed W B t v):BoxN W B t #[v]:=h
theorem BoxN.later {W W':World} {B:Nat} {t:TypeId} {cs:Array Value} (h:BoxN W B t cs) (hb:Below W.heap.size W W'):BoxN W' B t cs:=(hb.block B h.lt).trans h
theorem BoxN.alloc {W:World} {B:Nat} {t:TypeId} {cs:Array Value} (h:BoxN W B t cs) (o:Obj):BoxN (W.alloc o) B t cs:=h.later (ba _ _)
set_option maxHeartbeats 4000000 in
set_option maxRecDepth 100000 in
theorem find_any (v:Value) (x:Ve) (seat:Int) (w:World) (hv:IsVe w v x):
 Calls Tryz.prog 201 #[v,.int .i64 seat] w fun e w'=>e=.returned (.tuple #[.agg #[.int .i64 (findV x seat).1.sec,.int .i64 (findV x seat).1.row,.int .i64 (findV x seat).1.first,.int .i64 (findV x seat).1.many],.int .i64 (findV x seat).2])∧Below w.heap.size w w':=by
 have C1:=Lib.hid (fun W (hb:Below w.heap.size w W)=>venueCheck_any v x W (by obtain⟨A,c,h1,h2,h3⟩:=hv;exact⟨A,c,h1,h2.up hb,h3⟩))
 obtain⟨A,c,rfl,hs,_,_,_⟩:=hv
 have hE:=Lib.hid (show findV x seat=if(checkV x).2≠0 then(noRw,(checkV x).2) else match(rws x.secs 0 0).find? (hit seat) with|some y=>(y,0)|none=>(noRw,4) from rfl)
 have hok:=Lib.hid (fun h=>checkV_ok (x:=x) h)
 generalize hcv:checkV x=E at C1 hE hok
 obtain⟨E1,E2⟩:=E
 simp only at C1 hE hok
 clear hcv
 refine(callsIn_wide (n:=6)).1 ?_
 refine callsIn_of_wp_marks Tryz.func201 rfl trivial ?_ rfl
 simp only[Tryz.ntmps201,List.size_toArray,List.length_cons,List.length_nil,Nat.reduceAdd,Nat.reduceSub,Array.replicate_succ,Array.replicate_zero,List.push_toArray,List.append_toArray,List.nil_append,List.cons_append]
 gi_wp2
 refine⟨trivial, ?_⟩
 obtain⟨W1,hW1⟩:∃W1,(((w.alloc (.cells #[.int .i64 x.shards,.int .i64 x.ttl,.int .i64 x.session,.slice A x.secs.length c] 24)).alloc (.cells #[.int .i64 seat] 3)).alloc (.cells #[.int .i64 0,.int .i64 0,.int .i64 0,.int .i64 0] 113)).alloc (.cells #[.int .i64 0] 32)=W1:=⟨_,rfl⟩
 have b2:BoxN W1 w.heap.size 24 #[.int .i64 x.shards,.int .i64 x.ttl,.int .i64 x.session,.slice A x.secs.length c]:=by
  rw[←hW1];exact(((BoxN.new w _ _).alloc _).alloc _).alloc _
 have b3:BoxN W1 (w.heap.size+1) 3 #[.int .i64 seat]:=by
  rw[←hW1];have h:=BoxN.new (w.alloc (.cells #[.int .i64 x.shards,.int .i64 x.ttl,.int .i64 x.session,.slice A x.secs.length c] 24)) 3 #[.int .i64 seat];rw[World.size_alloc] at h;exact(h.alloc _).alloc _
 have b4:BoxN W1 (w.heap.size+1+1) 113 #[.int .i64 0,.int .i64 0,.int .i64 0,.int .i64 0]:=by
  rw[←hW1];have h:=BoxN.new ((w.alloc (.cells #[.int .i64 x.shards,.int .i64 x.ttl,.int .i64 x.session,.slice A x.secs.length c] 24)).alloc (.cells #[.int .i64 seat] 3)) 113 #[.int .i64 0,.int .i64 0,.int .i64 0,.int .i64 0];simp only[World.size_alloc] at h;exact h.alloc _
 have b5:BoxN W1 (w.heap.size+1+1+1) 32 #[.int .i64 0]:=by
  rw[←hW1];have h:=BoxN.new (((w.alloc (.cells #[.int .i64 x.shards,.int .i64 x.ttl,.int .i64 x.session,.slice A x.secs.length c] 24)).alloc (.cells #[.int .i64 seat] 3)).alloc (.cells #[.int .i64 0,.int .i64 0,.int .i64 0,.int .i64 0] 113)) 32 #[.int .i64 0];simp only[World.size_alloc] at h;exact h
 have hb1:Below w.heap.size w W1:=by rw[←hW1];exact bal (bal (bal (ba _ _)))
 rw[hW1]
 clear hW1
 refine(callsIn_wide.2 (C1.out _ hb1)).mono ?_
 rintro e w2 ⟨rfl,hb2⟩
 replace b2:=b2.later hb2
 replace b3:=b3.later hb2
 replace b4:=b4.later hb2
 replace b5:=b5.later hb2
 replace hb1:Below w.heap.size w w2:=hb1.trans (hb2.mono hb1.size)
 clear hb2
 have c0:=b2.cell 0 (.int .i64 x.shards) rfl
 have c1:=b2.cell 1 (.int .i64 x.ttl) rfl
 have c2:=b2.cell 2 (.int .i64 x.session) rfl
 have c3:=b2.cell 3 (.slice A x.secs.length c) rfl
 have z5:=b5.lt
 have z2:=b2.lt
 by_cases h:E2=0
 case neg=>
  have t0:(E2 !=0)=true:=by simpa using h
  have d0:=b4.cell 0 (.int .i64 0) rfl
  have d1:=b4.cell 1 (.int .i64 0) rfl
  have d2:=b4.cell 2 (.int .i64 0) rfl
  have d3:=b4.cell 3 (.int .i64 0) rfl
  have e0:=b5.cell 0 (.int .i64 0) rfl
  have fd0:=b4.frozen 0
  have fd1:=b4.frozen 1
  have fd2:=b4.frozen 2
  have fd3:=b4.frozen 3
  have fe0:=b5.frozen 0
  gi_wp2
  have b4':=(b4.set4 (.int .i64 0) (.int .i64 0) (.int .i64 0) (.int .i64 0)).other (B':=w.heap.size+1+1+1) (i:=0) (by omega) (.int .i64 E2)
  have b5':=(((((b5.other (B':=w.heap.size+1+1) (i:=0) (by omega) (.int .i64 0)).other (B':=w.heap.size+1+1) (i:=1) (by omega) (.int .i64 0)).other (B':=w.heap.size+1+1) (i:=2) (by omega) (.int .i64 0)).other (B':=w.heap.size+1+1) (i:=3) (by omega) (.int .i64 0)).set 0 (.int .i64 E2))
  have g0:=b4'.cell 0 (.int .i64 0) rfl
  have g1:=b4'.cell 1 (.int .i64 0) rfl
  have g2:=b4'.cell 2 (.int .i64 0) rfl
  have g3:=b4'.cell 3 (.int .i64 0) rfl
  have g4:=b5'.cell 0 (.int .i64 E2) rfl
  have hB:Below w.heap.size w (((((w2.setCell ⟨w.heap.size+1+1,0,none⟩ (.int .i64 0)).setCell ⟨w.heap.size+1+1,1,none⟩ (.int .i64 0)).setCell ⟨w.heap.size+1+1,2,none⟩ (.int .i64 0)).setCell ⟨w.heap.size+1+1,3,none⟩ (.int .i64 0)).setCell ⟨w.heap.size+1+1+1,0,none⟩ (.int .i64 E2)):=
   ((((hb1.setCell (p:=⟨w.heap.size+1+1,0,none⟩) (by simp;omega) _).setCell (p:=⟨w.heap.size+1+1,1,none⟩) (by simp;omega) _).setCell (p:=⟨w.heap.size+1+1,2,none⟩) (by simp;omega) _).setCell (p:=⟨w.heap.size+1+1,3,none⟩) (by simp;omega) _).setCell (p:=⟨w.heap.size+1+1+1,0,none⟩) (by simp;omega) _
  exact⟨.tuple #[.agg #[.int .i64 0,.int .i64 0,.int .i64 0,.int .i64 0],.int .i64 E2],by simp[results,Tryz.results201,go_sem,g0,g1,g2,g3,g4],by rw[hE.out,if_pos h];rfl,hB⟩
 subst h
 gi_wp2
 refine⟨trivial, ?_⟩
 refine(rows_in _ _ trivial rfl _ _ _ _ _).mono ?_
 rintro e w3 ⟨rfl,rfl⟩
 gi_wp2
 obtain⟨hok,hsum,_⟩:=hok.out (by trivial)
 have hBn:=(BoxN.new w2 24 #[.int .i64 x.shards,.int .i64 x.ttl,.int .i64 x.session,.slice A x.secs.length c]).cell 3 (.slice A x.secs.length c) rfl
 have hbw2:Below w.heap.size w (w2.alloc (.cells #[.int .i64 x.shards,.int .i64 x.ttl,.int .i64 x.session,.slice A x.secs.length c] 24)):=bal hb1
 replace b3:=b3.alloc (.cells #[.int .i64 x.shards,.int .i64 x.ttl,.int .i64 x.session,.slice A x.secs.length c] 24)
 replace b4:=b4.alloc (.cells #[.int .i64 x.shards,.int .i64 x.ttl,.int .i64 x.session,.slice A x.secs.length c] 24)
 replace b5:=b5.alloc (.cells #[.int .i64 x.shards,.int .i64 x.ttl,.int .i64 x.session,.slice A x.secs.length c] 24)
 obtain⟨W0,hW0⟩:∃W0,w2.alloc (.cells #[.int .i64 x.shards,.int .i64 x.ttl,.int .i64 x.session,.slice A x.secs.length c] 24)=W0:=⟨_,rfl⟩
 rw[hW0] at hbw2 hBn b3 b4 b5⊢
 clear hW0 c0 c1 c2 c3 b2 hb1
 have hZ:w.heap.size≤W0.heap.size:=hbw2.size
 refine wpIn_rangeFunc_ownH rfl (by decide) (gf:=88) (lb:=#[.pointer (some ⟨w2.heap.size,0,none⟩)]) rfl trivial (enters_of Tryz.func88 (by kernel_rfl) rfl)
  (encs:=rwEnc) (Kp:=Below w.heap.size) (S:=fun ys=>ys=rws x.secs 0 0) (Sp:=fun pre=>pre<+:rws x.secs 0 0) (N:=(rws x.secs 0 0).length) (w0:=W0)
  (fun l J Jx W hW hJ _ hY h0=>rows1_in _ _ trivial rfl (by decide) l w2.heap.size w A c x.secs hs hok J Jx W hJ hY (hbw2.trans (hW.mono hZ)) (cell_later hW hBn) h0)
  belowK_t (belowK_b hZ) (Below.refl _ _) (fun _=>rfl)
  (fun pre W=>((((∀z,z∈pre→hit seat z=false)∧BoxN W (w.heap.size+1) 3 #[.int .i64 seat])∧BoxN W (w.heap.size+1+1) 113 #[.int .i64 0,.int .i64 0,.int .i64 0,.int .i64 0])∧BoxN W (w.heap.size+1+1+1) 32 #[.int .i64 0])∧Below w.heap.size w W)
  (fun c pre W=>((c=.ret∧∃q y,pre=q++[y]∧(∀z,z∈q→hit seat z=false)∧hit seat y=true∧BoxN W (w.heap.size+1+1) 113 #[.int .i64 y.sec,.int .i64 y.row,.int .i64 y.first,.int .i64 y.many])∧BoxN W (w.heap.size+1+1+1) 32 #[.int .i64 0])∧Below w.heap.size w W)
  (OwnFrom.and (OwnFrom.and (OwnFrom.and (OwnFrom.and (ownFrom_pure _ _) (_root_.Go.Own.from (boxN_own _ _ _) _)) (_root_.Go.Own.from (boxN_own _ _ _) _)) (_root_.Go.Own.from (boxN_own _ _ _) _)) (ownFrom_below (Nat.le_refl _) hZ))
  (fun c pre X Y row hs hg hr=>by
   obtain⟨⟨⟨hc,q,y,h1,h2,h3,h4⟩,h5⟩,h6⟩:=hs
   exact⟨⟨⟨hc,q,y,h1,h2,h3,boxN_own _ _ (fun(_:Unit)=>#[.int .i64 y.sec,.int .i64 y.row,.int .i64 y.first,.int .i64 y.many]) () X Y row h4 hg (fun r e=>(hr r e).2)⟩,boxN_own _ _ (fun(_:Unit)=>#[.int .i64 0]) () X Y row h5 hg (fun r e=>(hr r e).2)⟩,ownFrom_below (Nat.le_refl _) hZ () X Y row h6 hg hr⟩)
  ⟨⟨⟨⟨by simp,b3⟩,b4⟩,b5⟩,hbw2⟩
  (fun y a' W=> ∃Bx,w.heap.size+1+1+1<Bx∧BoxN W Bx 113 #[.int .i64 y.sec,.int .i64 y.row,.int .i64 y.first,.int .i64 y.many]∧a'={tmps:=#[.agg #[.int .i64 x.shards,.int .i64 x.ttl,.int .i64 x.session,.slice A x.secs.length c],.int .i64 seat,.pointer (some ⟨w.heap.size,0,none⟩),.pointer (some ⟨w.heap.size+1,0,none⟩),.pointer (some ⟨w.heap.size+1+1,0,none⟩),.pointer (some ⟨w.heap.size+1+1+1,0,none⟩),.int .i64 E1,.int .i64 0,.pointer (some ⟨Bx,0,none⟩),.tuple #[.int .i64 E1,.int .i64 0],.agg #[.int .i64 x.shards,.int .i64 x.ttl,.int .i64 x.session,.slice A x.secs.length c],.tuple #[.int .i64 E1,.int .i64 0],.int .i64 E1,.int .i64 0,.int .i64 0,.bool false,undef,undef,.agg #[.int .i64 x.shards,.int .i64 x.ttl,.int .i64 x.session,.slice A x.secs.length c],.func (.func 88) #[] #[.pointer (some ⟨w2.heap.size,0,none⟩)],.agg #[.int .i64 y.sec,.int .i64 y.row,.int .i64 y.first,.int .i64 y.many],undef,undef,undef,undef,undef,undef,undef,undef,undef,undef,undef,undef,undef,undef,undef],defers:=[]})
  (fun y a' _ X Y row hs hg hr=>by obtain⟨Bx,h1,h2,h3⟩:=hs;exact⟨Bx,h1,boxN_own Bx 113 (fun(_:Unit)=>#[.int .i64 y.sec,.int .i64 y.row,.int .i64 y.first,.int .i64 y.many]) () X Y row h2 hg (fun r e=>(hr r e).2),h3⟩)
  ?assign ?body ?done ?stop
 case assign=>
  rintro l pre y W K ⟨⟨⟨⟨hq,b3⟩,b4⟩,b5⟩,hB1⟩ hK
  simp only[rwEnc]
  gi_wp2
  exact hK _ _ ((KeepsOthers.alloc _ _).from _) ((Below.refl _ W).alloc hB1.size _) ⟨⟨⟨⟨hq,b3.alloc _⟩,b4.alloc _⟩,b5.alloc _⟩,hB1.alloc hB1.size _⟩ ⟨W.heap.size,b5.lt,BoxN.new W 113 _,rfl⟩
 case body=>
  rintro l pre y a' W hl _ ⟨⟨⟨⟨hq,b3⟩,b4⟩,b5⟩,hB1⟩ ⟨Bx,hBx,bX,rfl⟩ hlt
  have cS:=b3.cell 0 (.int .i64 seat) rfl
  have x0:=bX.cell 0 (.int .i64 y.sec) rfl
  have x1:=bX.cell 1 (.int .i64 y.row) rfl
  have x2:=bX.cell 2 (.int .i64 y.first) rfl
  have x3:=bX.cell 3 (.int .i64 y.many) rfl
  have HQ:=Lib.hid hq
  clear hq
  by_cases q1:y.first≤seat
  ·by_cases q2:seat<wrap64 (y.first+y.many)
   ·have hh:=Lib.hid (show hit seat y=true by simp[hit,q1,q2])
    have d0:=b4.cell 0 (.int .i64 0) rfl
    have d1:=b4.cell 1 (.int .i64 0) rfl
    have d2:=b4.cell 2 (.int .i64 0) rfl
    have d3:=b4.cell 3 (.int .i64 0) rfl
    have e0:=b5.cell 0 (.int .i64 0) rfl
    have fd0:=b4.frozen 0
    have fd1:=b4.frozen 1
    have fd2:=b4.frozen 2
    have fd3:=b4.frozen 3
    have fe0:=b5.frozen 0
    have z5:=b5.lt
    gi_wp2
    have b4':=(b4.set4 (.int .i64 y.sec) (.int .i64 y.row) (.int .i64 y.first) (.int .i64 y.many)).other (B':=w.heap.size+1+1+1) (i:=0) (by omega) (.int .i64 0)
    have b5':=(((((b5.other (B':=w.heap.size+1+1) (i:=0) (by omega) (.int .i64 y.sec)).other (B':=w.heap.size+1+1) (i:=1) (by omega) (.int .i64 y.row)).other (B':=w.heap.size+1+1) (i:=2) (by omega) (.int .i64 y.first)).other (B':=w.heap.size+1+1) (i:=3) (by omega) (.int .i64 y.many)).set 0 (.int .i64 0))
    refine⟨((((((KeepsOthers.setCell _ _ _).trans (KeepsOthers.setCell _ _ _)).trans (KeepsOthers.setCell _ _ _)).trans (KeepsOthers.setCell _ _ _)).trans (KeepsOthers.setCell _ _ _))).from _,⟨⟨rfl,pre,y,rfl,HQ.out,hh.out,b4'⟩,b5'⟩, ?_⟩
    exact((((hB1.setCell (p:=⟨w.heap.size+1+1,0,none⟩) (by simp;omega) _).setCell (p:=⟨w.heap.size+1+1,1,none⟩) (by simp;omega) _).setCell (p:=⟨w.heap.size+1+1,2,none⟩) (by simp;omega) _).setCell (p:=⟨w.heap.size+1+1,3,none⟩) (by simp;omega) _).setCell (p:=⟨w.heap.size+1+1+1,0,none⟩) (by simp;omega) _
   ·have hh:=Lib.hid (show hit seat y=false by simp[hit,q2])
    gi_wp2
    exact⟨(KeepsOthers.refl _).from _,Below.refl _ _,⟨⟨⟨fun z hz=>by rcases List.mem_append.1 hz with hz|hz;exact HQ.out z hz;rw[List.mem_singleton.1 hz];exact hh.out,b3⟩,b4⟩,b5⟩,hB1⟩
  ·have hh:=Lib.hid (show hit seat y=false by simp[hit,q1])
   gi_wp2
   exact⟨(KeepsOthers.refl _).from _,Below.refl _ _,⟨⟨⟨fun z hz=>by rcases List.mem_append.1 hz with hz|hz;exact HQ.out z hz;rw[List.mem_singleton.1 hz];exact hh.out,b3⟩,b4⟩,b5⟩,hB1⟩
 case done=>
  rintro D zs W hD rfl ⟨⟨⟨⟨hq,b3⟩,b4⟩,b5⟩,hB1⟩ hK
  have hF:=Lib.hid (show findV x seat=(noRw,4) by
   rw[hE.out,if_neg (by simp),List.find?_eq_none.2 (fun z hz=>by rw[hq z hz];simp)])
  have d0:=b4.cell 0 (.int .i64 0) rfl
  have d1:=b4.cell 1 (.int .i64 0) rfl
  have d2:=b4.cell 2 (.int .i64 0) rfl
  have d3:=b4.cell 3 (.int .i64 0) rfl
  have e0:=b5.cell 0 (.int .i64 0) rfl
  have fd0:=b4.frozen 0
  have fd1:=b4.frozen 1
  have fd2:=b4.frozen 2
  have fd3:=b4.frozen 3
  have fe0:=b5.frozen 0
  have z5:=b5.lt
  clear hq
  gi_wp2
  have b4':=(b4.set4 (.int .i64 0) (.int .i64 0) (.int .i64 0) (.int .i64 0)).other (B':=w.heap.size+1+1+1) (i:=0) (by omega) (.int .i64 4)
  have b5':=(((((b5.other (B':=w.heap.size+1+1) (i:=0) (by omega) (.int .i64 0)).other (B':=w.heap.size+1+1) (i:=1) (by omega) (.int .i64 0)).other (B':=w.heap.size+1+1) (i:=2) (by omega) (.int .i64 0)).other (B':=w.heap.size+1+1) (i:=3) (by omega) (.int .i64 0)).set 0 (.int .i64 4))
  have hKO:=((((KeepsOthers.setCell W ⟨w.heap.size+1+1,0,none⟩ (.int .i64 0)).trans (KeepsOthers.setCell _ ⟨w.heap.size+1+1,1,none⟩ (.int .i64 0))).trans (KeepsOthers.setCell _ ⟨w.heap.size+1+1,2,none⟩ (.int .i64 0))).trans (KeepsOthers.setCell _ ⟨w.heap.size+1+1,3,none⟩ (.int .i64 0))).trans (KeepsOthers.setCell _ ⟨w.heap.size+1+1+1,0,none⟩ (.int .i64 4))
  have hK':=hKO.same D _ hK rfl
  have hB:=((((hB1.setCell (p:=⟨w.heap.size+1+1,0,none⟩) (by simp;omega) (.int .i64 0)).setCell (p:=⟨w.heap.size+1+1,1,none⟩) (by simp;omega) (.int .i64 0)).setCell (p:=⟨w.heap.size+1+1,2,none⟩) (by simp;omega) (.int .i64 0)).setCell (p:=⟨w.heap.size+1+1,3,none⟩) (by simp;omega) (.int .i64 0)).setCell (p:=⟨w.heap.size+1+1+1,0,none⟩) (by simp;omega) (.int .i64 4)
  refine⟨by simp,.inl ⟨_,_,rfl,run_takeDeferred hK', ?_⟩⟩
  have g (i:Nat) (u:Value) (hu:#[.int .i64 0,.int .i64 0,.int .i64 0,.int .i64 0][i]?=some u):=cell_kept (b4'.cell i u hu) (grownBy_putObj' _ D (.deferred none)) (fun r e=>by cases e;exact⟨_,hK',rfl⟩)
  have g0:=g 0 (.int .i64 0) rfl
  have g1:=g 1 (.int .i64 0) rfl
  have g2:=g 2 (.int .i64 0) rfl
  have g3:=g 3 (.int .i64 0) rfl
  have g4:=cell_kept (b5'.cell 0 (.int .i64 4) rfl) (grownBy_putObj' _ D (.deferred none)) (fun r e=>by cases e;exact⟨_,hK',rfl⟩)
  exact⟨.tuple #[.agg #[.int .i64 0,.int .i64 0,.int .i64 0,.int .i64 0],.int .i64 4],by simp[results,Tryz.results201,go_sem,g0,g1,g2,g3,g4],by rw[hF.out];rfl,hB.trans (belowK_b (w:=w) (Nat.le_refl _) _ D _ _ (by omega) hK' rfl rfl)⟩
 case stop=>
  rintro D c pre W hD hpre ⟨⟨⟨rfl,q,y,rfl,hq,hy,b4⟩,b5⟩,hB1⟩ hK
  have hF:=Lib.hid (show findV x seat=(y,0) by
   obtain⟨r,hr⟩:=hpre
   rw[hE.out,if_neg (by simp),←hr,List.append_assoc,List.find?_append,List.find?_eq_none.2 (fun z hz=>by rw[hq z hz];simp)]
   simp[hy])
  clear hq hy hpre
  gi_wp2
  refine⟨by simp,.inl ⟨_,_,rfl,run_takeDeferred hK, ?_⟩⟩
  have g (i:Nat) (u:Value) (hu:#[.int .i64 y.sec,.int .i64 y.row,.int .i64 y.first,.int .i64 y.many][i]?=some u):=cell_kept (b4.cell i u hu) (grownBy_putObj' _ D (.deferred none)) (fun r e=>by cases e;exact⟨_,hK,rfl⟩)
  have g0:=g 0 (.int .i64 y.sec) rfl
  have g1:=g 1 (.int .i64 y.row) rfl
  have g2:=g 2 (.int .i64 y.first) rfl
  have g3:=g 3 (.int .i64 y.many) rfl
  have g4:=cell_kept (b5.cell 0 (.int .i64 0) rfl) (grownBy_putObj' _ D (.deferred none)) (fun r e=>by cases e;exact⟨_,hK,rfl⟩)
  exact⟨.tuple #[.agg #[.int .i64 y.sec,.int .i64 y.row,.int .i64 y.first,.int .i64 y.many],.int .i64 0],by simp[results,Tryz.results201,go_sem,g0,g1,g2,g3,g4],by rw[hF.out],hB1.trans (belowK_b (w:=w) (Nat.le_refl _) _ D _ _ (by omega) hK rfl rfl)⟩
end Go.Proofs.YtlckmjiioohcmaaGreatDoor
namespace Go.Proofs.YtlckmjiioohcmaaGreatDoor
open Go.RowKit
theorem mem_rowsOf {i:Int} {y:Rw}:∀{l:List Int} {k f:Int},y∈rowsOf i l k f→∃j,∃h:j<l.length,y.sec=i∧y.row=k+j∧y.many=l[j]∧y.first=f+sum (l.take j)
 |[],_,_,h=>by simp[rowsOf] at h
 |n::l,k,f,h=>by
  simp only[rowsOf] at h
  rcases List.mem_cons.1 h with rfl|h
  ·exact⟨0,by simp,rfl,by simp,rfl,by simp[sum]⟩
  ·obtain⟨j,hj,h1,h2,h3,h4⟩:=mem_rowsOf h
   exact⟨j+1,by simpa using hj,h1,by rw[h2];omega,by simpa using h3,by rw[h4,List.take_succ_cons,sum];omega⟩
theorem mem_rws {y:Rw}:∀{secs:List Sec} {i f:Int},y∈rws secs i f→∃j,∃hj:j<secs.length,∃k,∃hk:k<secs[j].rows.length,y.sec=i+j∧y.row=k∧y.many=secs[j].rows[k]∧y.first=f+sum ((secs.take j).flatMap (·.rows))+sum (secs[j].rows.take k)
 |[],_,_,h=>by simp[rws] at h
 |s::l,i,f,h=>by
  simp only[rws] at h
  rcases List.mem_append.1 h with h|h
  ·obtain⟨k,hk,h1,h2,h3,h4⟩:=mem_rowsOf h
   exact⟨0,by simp,k,by simpa using hk,by simpa using h1,by simpa using h2,by simpa using h3,by simpa[sum] using h4⟩
  ·obtain⟨j,hj,k,hk,h1,h2,h3,h4⟩:=mem_rws h
   exact⟨j+1,by simpa using hj,k,by simpa using hk,by rw[h1];omega,h2,by simpa using h3,by rw[h4];simp only[List.take_succ_cons,List.flatMap_cons,sum_append,List.getElem_cons_succ];omega⟩
theorem rw_bd {secs:List Sec} (hok:SecsOk secs) {y:Rw} (h:y∈rws secs 0 0):0≤y.first∧y.first≤10240∧1≤y.many∧y.many≤64:=by
 obtain⟨j,hj,k,hk,h1,h2,h3,h4⟩:=mem_rws h
 have h5:=upTo_bd (k:=j) (by omega) fun i hi _=>hok.2 i hi
 have h6:=secE_ok (hok.2 j hj)
 have h7:=h6.2.1 _ (List.getElem_mem hk)
 have h8:=sum_bd (m:=64) (by decide) (l:=secs[j].rows.take k) fun n hn=>by have:=h6.2.1 n (List.mem_of_mem_take hn);omega
 have h9:((secs[j].rows.take k).length:Int)≤16:=by simp;omega
 have h10:=hok.1
 have h11:sum ((secs.take j).flatMap (·.rows))=upTo secs j:=rfl
 rw[h11] at h4
 exact⟨by omega,by omega,by omega,by omega⟩
theorem findV_ok {x:Ve} {seat:Int} (h:(findV x seat).2=0):(checkV x).2=0∧(findV x seat).1∈rws x.secs 0 0∧(findV x seat).1.first≤seat∧seat<(findV x seat).1.first+(findV x seat).1.many:=by
 unfold findV at h⊢
 by_cases hc:(checkV x).2≠0
 ·rw[if_pos hc] at h
  exact absurd h hc
 ·rw[if_neg hc] at h⊢
  cases hf:(rws x.secs 0 0).find? (hit seat) with
  |none=>rw[hf] at h;exact absurd h (by decide)
  |some y=>
   have hm:=List.mem_of_find?_eq_some hf
   have hh:hit seat y=true:=List.find?_some hf
   have hb:=rw_bd (checkV_ok (Decidable.not_not.1 hc)).1 hm
   refine⟨Decidable.not_not.1 hc,hm, ?_⟩
   simp only[hit,Bool.and_eq_true,decide_eq_true_eq,wrap64] at hh
   have:(y.first+y.many+9223372036854775808)%18446744073709551616=y.first+y.many+9223372036854775808:=Int.emod_eq_of_lt (by omega) (by omega)
   show y.first≤seat∧seat<y.first+y.many
   omega
structure Pl where
 sec:Int
 row:Int
 seat:Int
def placeV (x:Ve) (seat:Int):Pl×Int:=if(findV x seat).2≠0 then(⟨0,0,0⟩,(findV x seat).2) else(⟨(findV x seat).1.sec,(findV x seat).1.row,seat-(findV x seat).1.first⟩,0)
set_option maxHeartbeats 1000000 in
theorem place_any (v:Value) (x:Ve) (seat:Int) (w:World) (hv:IsVe w v x):
 Calls Tryz.prog 184 #[v,.int .i64 seat] w fun e w'=>e=.returned (.tuple #[.agg #[.int .i64 (placeV x seat).1.sec,.int .i64 (placeV x seat).1.row,.int .i64 (placeV x seat).1.seat],.int .i64 (placeV x seat).2])∧Below w.heap.size w w':=by
 have C1:=Lib.hid (fun W (hb:Below w.heap.size w W)=>find_any v x seat W (by obtain⟨A,c,h1,h2,h3⟩:=hv;exact⟨A,c,h1,h2.up hb,h3⟩))
 obtain⟨A,c,rfl,_,_,_,_⟩:=hv
 have hE:=Lib.hid (show placeV x seat=if(findV x seat).2≠0 then(⟨0,0,0⟩,(findV x seat).2) else(⟨(findV x seat).1.sec,(findV x seat).1.row,seat-(findV x seat).1.first⟩,0) from rfl)
 have hok:=Lib.hid (fun h=>findV_ok (x:=x) (seat:=seat) h)
 generalize findV x seat=E at C1 hE hok
 obtain⟨y,e⟩:=E
 simp only at C1 hE hok
 go_enter Tryz.func184,Tryz.ntmps184
 go_wp2_with fail
 refine(C1.out _ (bal (ba _ _))).mono ?_
 rintro e1 w1 ⟨rfl,hb1⟩
 have b4:BoxN w1 (w.heap.size+1) 157 #[.int .i64 0,.int .i64 0,.int .i64 0]:=by
  have h:=BoxN.new (w.alloc (.cells #[.int .i64 x.shards,.int .i64 x.ttl,.int .i64 x.session,.slice A x.secs.length c] 24)) 157 #[.int .i64 0,.int .i64 0,.int .i64 0]
  rw[World.size_alloc] at h
  exact h.later hb1
 have hbw:Below w.heap.size w w1:=(bal (ba w _)).trans (hb1.mono (bal (ba w _)).size)
 have d0:=b4.cell 0 (.int .i64 0) rfl
 have d1:=b4.cell 1 (.int .i64 0) rfl
 have d2:=b4.cell 2 (.int .i64 0) rfl
 have fd0:=b4.frozen 0
 have fd1:=b4.frozen 1
 have fd2:=b4.frozen 2
 have z4:=b4.lt
 by_cases h:e=0
 case neg=>
  have t0:(e !=0)=true:=by simpa using h
  go_wp2_with fail
  have b4':=(((b4.set 0 (.int .i64 0)).set 1 (.int .i64 0)).set 2 (.int .i64 0)).alloc (.cells #[.int .i64 y.sec,.int .i64 y.row,.int .i64 y.first,.int .i64 y.many] 113)
  have g0:=b4'.cell 0 (.int .i64 0) rfl
  have g1:=b4'.cell 1 (.int .i64 0) rfl
  have g2:=b4'.cell 2 (.int .i64 0) rfl
  have hB:=((hbw.setCell (p:=⟨w.heap.size+1,0,none⟩) (by simp) (.int .i64 0)).setCell (p:=⟨w.heap.size+1,1,none⟩) (by simp) (.int .i64 0)).setCell (p:=⟨w.heap.size+1,2,none⟩) (by simp) (.int .i64 0)
  exact bodyPost_ret (v:=.tuple #[.agg #[.int .i64 0,.int .i64 0,.int .i64 0],.int .i64 e]) (by simp[results,Tryz.results184,go_sem,g0,g1,g2]) rfl ⟨by rw[hE.out,if_pos h],bal hB⟩
 subst h
 obtain⟨hc,hm,hf1,hf2⟩:=hok.out rfl
 have hb:=rw_bd (checkV_ok hc).1 hm
 have hwr:IntKind.i64.wrap (seat-y.first)=seat-y.first:=IntWalk.i64_in _ (by omega)
 go_wp2_with fail
 have b4':=(((b4.set 0 (.int .i64 y.sec)).set 1 (.int .i64 y.row)).set 2 (.int .i64 (seat-y.first))).alloc (.cells #[.int .i64 y.sec,.int .i64 y.row,.int .i64 y.first,.int .i64 y.many] 113)
 have g0:=b4'.cell 0 (.int .i64 y.sec) rfl
 have g1:=b4'.cell 1 (.int .i64 y.row) rfl
 have g2:=b4'.cell 2 (.int .i64 (seat-y.first)) rfl
 have hB:=((hbw.setCell (p:=⟨w.heap.size+1,0,none⟩) (by simp) (.int .i64 y.sec)).setCell (p:=⟨w.heap.size+1,1,none⟩) (by simp) (.int .i64 y.row)).setCell (p:=⟨w.heap.size+1,2,none⟩) (by simp) (.int .i64 (seat-y.first))
 exact bodyPost_ret (v:=.tuple #[.agg #[.int .i64 y.sec,.int .i64 y.row,.int .i64 (seat-y.first)],.int .i64 0]) (by simp[results,Tryz.results184,go_sem,g0,g1,g2]) rfl ⟨by rw[hE.out,if_neg (by simp)],bal hB⟩
end Go.Proofs.YtlckmjiioohcmaaGreatDoor
namespace Go.Proofs.YtlckmjiioohcmaaGreatDoor
open Go.RowKit
def addT (t d:Int):Int×Int:=if t<0∨d<0 then(0,7) else if 9223372036854775807<t+d then(9223372036854775807,0) else(t+d,0)
set_option maxHeartbeats 1000000 in
theorem min2_any (a b:Int) (B:Nat) (w:World) (h0:w.cell? ⟨B,0,none⟩=some (.int .i64 a)) (h1:w.cell? ⟨B,1,none⟩=some (.int .i64 b)):
 Calls Tryz.prog 198 #[.slice (some ⟨B,0,none⟩) 2 2] w fun e w'=>e=.returned (.int .i64 (min a b))∧Below w.heap.size w w':=by
 go_enter Tryz.func198,Tryz.ntmps198
 go_wp2
 go_loopw [3,4] (fun m i wr=>wr=w∧((i=.int .i64 1∧m=.int .i64 a)∨(i=.int .i64 2∧m=.int .i64 (min a b)))) (fun _ i _=>2-(intOf i).toNat)
 case atStart=>exact⟨rfl,.inl ⟨rfl,rfl⟩⟩
 case round=>
  obtain⟨rfl,⟨rfl,rfl⟩|⟨rfl,rfl⟩⟩:=hrel
  ·go_wp2
   exact⟨⟨trivial,.inr ⟨rfl,rfl⟩⟩,by simp[intOf]⟩
  ·go_wp2
   go_ret
   exact⟨rfl,Below.refl _ _⟩
set_option maxHeartbeats 1000000 in
theorem none2_any (a b:Int) (B:Nat) (w:World) (h0:w.cell? ⟨B,0,none⟩=some (.int .i64 a)) (h1:w.cell? ⟨B,1,none⟩=some (.int .i64 b)):
 Calls Tryz.prog 181 #[.slice (some ⟨B,0,none⟩) 2 2] w fun e w'=>e=.returned (.bool (decide (min a b<0)))∧Below w.heap.size w w':=by
 have C:=Lib.hid (min2_any a b B w h0 h1)
 generalize min a b=m at C⊢
 go_enter Tryz.func181,Tryz.ntmps181
 go_wp2_with (go_at_call 198;refine C.out.mono ?_;rintro e w' ⟨rfl,hb⟩)
 go_ret
 exact⟨rfl,hb⟩
set_option maxHeartbeats 1000000 in
theorem add_any (t d:Int) (w:World) (ht:Bd t) (hd:Bd d):
 Calls Tryz.prog 169 #[.int .i64 t,.int .i64 d] w fun e w'=>e=.returned (.tuple #[.int .i64 (addT t d).1,.int .i64 (addT t d).2])∧Below w.heap.size w w':=by
 have C:=Lib.hid (none2_any t d w.heap.size (w.alloc (.cells #[.int .i64 t,.int .i64 d] 2)) ((Cells.new w [.int .i64 t,.int .i64 d] _).c 0 _ rfl) ((Cells.new w [.int .i64 t,.int .i64 d] _).c 1 _ rfl))
 unfold Bd at ht hd
 by_cases h0:t<0∨d<0
 ·have t0:decide (min t d<0)=true:=by simp;omega
  have hT:=Lib.hid (show addT t d=(0,7) by rw[addT,if_pos h0])
  rw[t0] at C
  clear h0 t0
  go_enter Tryz.func169,Tryz.ntmps169
  go_wp2_with (go_at_call 181;refine C.out.mono ?_;rintro e w' ⟨rfl,hb⟩)
  go_ret2
  exact⟨by rw[hT.out];rfl,(ba _ _).trans (hb.mono (by simp))⟩
 ·have t0:decide (min t d<0)=false:=by simp;omega
  rw[t0] at C
  have ht0:0≤t:=by omega
  have hd0:0≤d:=by omega
  by_cases h1:9223372036854775807<t+d
  ·have hT:=Lib.hid (show addT t d=(9223372036854775807,0) by rw[addT,if_neg h0,if_pos h1])
   have r:((t+d)/9223372036854775808==0)=false:=by simp;omega
   clear h0 t0
   go_enter Tryz.func169,Tryz.ntmps169
   go_wp2_with (go_at_call 181;refine C.out.mono ?_;rintro e w' ⟨rfl,hb⟩)
   go_ret2
   exact⟨by rw[hT.out];rfl,(ba _ _).trans (hb.mono (by simp))⟩
  ·have hT:=Lib.hid (show addT t d=(t+d,0) by rw[addT,if_neg h0,if_neg h1])
   have r:((t+d)/9223372036854775808==0)=true:=by simp;omega
   clear h0 t0
   go_enter Tryz.func169,Tryz.ntmps169
   go_wp2_with (go_at_call 181;refine C.out.mono ?_;rintro e w' ⟨rfl,hb⟩)
   go_ret2
   exact⟨by rw[hT.out];rfl,(ba _ _).trans (hb.mono (by simp))⟩
end Go.Proofs.YtlckmjiioohcmaaGreatDoor
