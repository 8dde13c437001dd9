/-
  No statement is proved here: words for the memory of a scheduler: what has turned (Chg), tasks, waits, turns, the scheduler's box and its runners (SM). Conditions: none.
  Walks of sched's ready, ended, can; of what a world says. Conditions: as each theorem says.
  Walks of sched's enabled, alive, numbers. Conditions: as each theorem says.
-/
import Derived.Test.YtlngbdggehghgaaLib
import Derived.Test.YtlngbdggehghgaaChecked
namespace Go.Proofs.Ytlngbdggehghgaa
set_option linter.unusedSimpArgs false
set_option linter.unusedVariables false
open Go.RowKit
structure Chg (F:Nat→Prop) (w w':World):Prop where
 os:w'.os=w.os
 output:w'.output=w.output
 size:w.heap.size≤w'.heap.size
 block:∀k,k<w.heap.size→¬F k→w'.heap[k]?=w.heap[k]?
section
variable {F G:Nat→Prop} {w w' w'':World}
theorem Chg.refl (F:Nat→Prop) (w:World):Chg F w w:=⟨rfl,rfl,Nat.le_refl _,fun _ _ _=>rfl⟩
theorem Chg.mono (h:Chg F w w') (hF:∀k,k<w.heap.size→F k→G k):Chg G w w':=⟨h.os,h.output,h.size,fun k hk hg=>h.block k hk fun hf=>hg (hF k hk hf)⟩
theorem Chg.trans (h:Chg F w w') (k:Chg G w' w'') (hG:∀i,i<w.heap.size→G i→F i):Chg F w w'':=
 ⟨k.os.trans h.os,k.output.trans h.output,Nat.le_trans h.size k.size,fun i hi hf=>(k.block i (Nat.lt_of_lt_of_le hi h.size) fun hg=>hf (hG i hi hg)).trans (h.block i hi hf)⟩
theorem Chg.of_below (h:Below w.heap.size w w'):Chg F w w':=⟨h.os,h.output,h.size,fun k hk _=>h.block k hk⟩
theorem Chg.cell (h:Chg F w w') {a:Addr} {x:Value} (hc:w.cell? a=some x) (hf:¬F a.block):w'.cell? a=some x:=by
 have hlt:=World.block_lt_of_cell? _ _ hc
 unfold World.cell? at hc⊢
 rw[h.block _ hlt hf]
 exact hc
theorem Chg.frozen (h:Chg F w w') {a:Addr} (hlt:a.block<w.heap.size) (hf:¬F a.block):w'.frozen? a=w.frozen? a:=by
 unfold World.frozen?
 rw[h.block _ hlt hf]
theorem Chg.set (w:World) {a:Addr} (x:Value) (ha:F a.block):Chg F w (w.setCell a x):=by
 refine⟨rfl,rfl,by simp[World.setCell],fun k hk hf=> ?_⟩
 unfold World.setCell
 simp only[Array.getElem?_modify]
 have hne:a.block≠k:=fun e=>hf (e▸ha)
 simp[hne]
theorem Chg.alloc (F:Nat→Prop) (w:World) (o:Obj):Chg F w (w.alloc o):=.of_below (ba w o)
theorem Chg.drew (F:Nat→Prop) (w:World):Chg F w w.drew:=⟨rfl,rfl,Nat.le_refl _,fun _ _ _=>rfl⟩
theorem Chg.grown {row:Option Nat} (h:w.grownBy w' row) (hr:∀k,row=some k→F k):Chg F w w':=
 ⟨h.os,h.output,h.size,fun k hk hf=>h.block k hk fun e=>hf (hr k e.symm)⟩
theorem bset {B:Nat} {a w:World} (h:Below B a w) {ad:Addr} (hB:B≤ad.block) (x:Value):Below B a (w.setCell ad x):=by
 refine⟨h.os,h.tape,h.output,by simpa[World.setCell] using h.size,fun k hk=> ?_⟩
 have hne:ad.block≠k:=by omega
 have:(w.setCell ad x).heap[k]?=w.heap[k]?:=by unfold World.setCell;simp[Array.getElem?_modify,hne]
 rw[this]
 exact h.block k hk
theorem Cells.chg {g:Nat} {cs:List Value} (h:Cells w g cs) (c:Chg F w w') (hg:¬F g):Cells w' g cs:=
 ⟨fun j u hu=>c.cell (h.c j u hu) hg,fun j=>(c.frozen (a:=⟨g,j,none⟩) h.lt hg).trans (h.f j),Nat.lt_of_lt_of_le h.lt c.size⟩
theorem Own.chg {α:Type} {R:Rep α} (hR:R.flat) {e:TypeId} {B:Nat} {v:Value} {xs:List α} (h:Own R e B w v xs) (c:Chg F w w') (hv:∀k,v.ownBlock=some k→¬F k):Own R e B w' v xs:=by
 obtain⟨cells,ho,hm⟩:=h
 refine⟨cells,⟨ho.1, ?_⟩,R.many_flat hR hm⟩
 rcases ho.2 with h2|⟨g,cap,cur,hv',hB,hg,r⟩
 ·exact .inl h2
 ·exact .inr ⟨g,cap,cur,hv',hB,(c.block g (Array.getElem?_eq_some_iff.1 hg).1 (hv g (by rw[hv'];rfl))).trans hg,r⟩
theorem Sl.chg {α:Type} {R:Rep α} (hR:R.flat) {v:Value} {xs:List α} (h:Sl R w v xs) (c:Chg F w w') (hv:∀k,v.ownBlock=some k→¬F k):Sl R w' v xs:=by
 obtain⟨A,c',rfl,hc,hm,h⟩:=h
 refine⟨A,c',rfl,hc,hm, ?_⟩
 rcases h with h|⟨b,off,rfl,hlt,h⟩
 ·exact .inl h
 ·refine .inr ⟨b,off,rfl,Nat.lt_of_lt_of_le hlt c.size,fun i x hi=> ?_⟩
  obtain⟨cs,h1,h2⟩:=h i x hi
  exact⟨cs,hR _ _ _ _ h1,fun j u hu=>c.cell (h2 j u hu) (hv b rfl)⟩
end
structure Tk where
 id:Int
 kind:Int
 pc:Int
 a:Int
 b:Int
 c:Int
 d:Int
 deriving DecidableEq
structure Wa where
 kind:Int
 obj:Int
 til:Int
 deriving DecidableEq
structure Tn where
 task:Int
 wait:Wa
 among:Int
 deriving DecidableEq
def Tk.cells (t:Tk):List Value:=[.int .i64 t.id,.int .i64 t.kind,.int .i64 t.pc,.int .i64 t.a,.int .i64 t.b,.int .i64 t.c,.int .i64 t.d]
def Wa.cells (t:Wa):List Value:=[.int .i64 t.kind,.int .i64 t.obj,.int .i64 t.til]
def Tn.cells (t:Tn):List Value:=[.int .i64 t.task,.int .i64 t.wait.kind,.int .i64 t.wait.obj,.int .i64 t.wait.til,.int .i64 t.among]
def tkR:Rep Tk where
 size:=7
 is _ cs t:=cs=t.cells
 len h:=by subst h;rfl
 one h:=by subst h;simp[Tk.cells,Value.oneCell']
 up _ h:=h
def waR:Rep Wa where
 size:=3
 is _ cs t:=cs=t.cells
 len h:=by subst h;rfl
 one h:=by subst h;simp[Wa.cells,Value.oneCell']
 up _ h:=h
def tnR:Rep Tn where
 size:=5
 is _ cs t:=cs=t.cells
 len h:=by subst h;rfl
 one h:=by subst h;simp[Tn.cells,Value.oneCell']
 up _ h:=h
def ptR:Rep Nat where
 size:=1
 is _ cs b:=cs=[.pointer (some ⟨b,0,none⟩)]
 len h:=by subst h;rfl
 one h:=by subst h;simp[Value.oneCell']
 up _ h:=h
theorem tkR_flat:tkR.flat:=fun _ _ _ _ h=>h
theorem waR_flat:waR.flat:=fun _ _ _ _ h=>h
theorem tnR_flat:tnR.flat:=fun _ _ _ _ h=>h
theorem ptR_flat:ptR.flat:=fun _ _ _ _ h=>h
structure Ru where
 task:Tk
 wait:Wa
 age:Int
def Ru.cells (r:Ru):List Value:=r.task.cells++r.wait.cells++[.int .i64 r.age]
structure SS where
 rs:List Ru
 turns:List Tn
 most:Int
 closed:Bool
structure SS.Ok (S:SS):Prop where
 few:S.rs.length≤200
 most:S.most≤20000
 cnt:(S.turns.length:Int)≤S.most
 age:∀r∈S.rs,0≤r.age∧r.age≤S.turns.length
 ids:∀(i:Nat) (r:Ru),S.rs[i]?=some r→r.task.id=(i:Int)+1
def WV:Option Nat→Value
 |none=> .iface 71 (.agg #[])
 |some b=> .iface 27 (.pointer (some ⟨b,0,none⟩))
structure SM (o:Option Nat) (B s:Nat) (bs:List Nat) (tv uv:Value) (S:SS) (w:World):Prop where
 box:Cells w s [WV o,tv,uv,.int .i64 S.most,.bool S.closed]
 tasks:Own ptR 98 B w tv bs
 turns:Own tnR 79 B w uv S.turns
 len:bs.length=S.rs.length
 runs:∀(i b:Nat) (r:Ru),bs[i]?=some b→S.rs[i]?=some r→Cells w b r.cells
 nd:bs.Nodup
 sB:B≤s
 bB:∀b∈bs,B≤b
 sb:s∉bs
 ap:∀k,tv.ownBlock=some k→k≠s∧k∉bs
 aq:∀k,uv.ownBlock=some k→k≠s∧k∉bs
 ok:S.Ok
def SMf (s:Nat) (bs:List Nat) (tv uv:Value) (k:Nat):Prop:=k=s∨k∈bs∨tv.ownBlock=some k∨uv.ownBlock=some k
section
variable {o:Option Nat} {B s:Nat} {bs:List Nat} {tv uv:Value} {S:SS} {w w':World} {F:Nat→Prop}
theorem SM.chg (h:SM o B s bs tv uv S w) (c:Chg F w w') (hd:∀k,SMf s bs tv uv k→¬F k):SM o B s bs tv uv S w':=
 ⟨h.box.chg c (hd _ (.inl rfl)),h.tasks.chg ptR_flat c (fun k e=>hd k (.inr (.inr (.inl e)))),h.turns.chg tnR_flat c (fun k e=>hd k (.inr (.inr (.inr e)))),h.len,
  fun i b r hb hr=>(h.runs i b r hb hr).chg c (hd _ (.inr (.inl (List.mem_of_getElem? hb)))),h.nd,h.sB,h.bB,h.sb,h.ap,h.aq,h.ok⟩
theorem SM.up (h:SM o B s bs tv uv S w) (hb:Below w.heap.size w w'):SM o B s bs tv uv S w':=h.chg (F:=fun _=>False) (.of_below hb) (fun _ _=>id)
theorem SM.run (h:SM o B s bs tv uv S w) {i:Nat} (hi:i<S.rs.length):∃b,bs[i]?=some b∧Cells w b (S.rs[i]).cells:=by
 have hi':i<bs.length:=by rw[h.len];exact hi
 exact⟨bs[i],List.getElem?_eq_getElem hi',h.runs i _ _ (List.getElem?_eq_getElem hi') (List.getElem?_eq_getElem hi)⟩
theorem SM.ptr (h:SM o B s bs tv uv S w) {i b:Nat} (hb:bs[i]?=some b):∃A c,tv=.slice (some ⟨A,0,none⟩) bs.length c∧bs.length≤c∧c≤9223372036854775807∧w.cell? ⟨A,i,none⟩=some (.pointer (some ⟨b,0,none⟩)):=by
 have hi:i<bs.length:=(List.getElem?_eq_some_iff.1 hb).1
 obtain⟨A,c,rfl,hc,hm,hO⟩:=h.tasks.form
 obtain⟨cells,ho,hmany⟩:=h.tasks
 rcases ho.2 with⟨h1,h0⟩|⟨g,cap,cur,hv,_,hg,hnc,hcm,hcs,htake⟩
 ·omega
 ·cases hv
  refine⟨g,c,rfl,hc,hm, ?_⟩
  obtain⟨cs,h3,h4⟩:=ptR.many_at hmany hb
  have h5:=h4 0 _ (by rw[h3];rfl)
  have h6:=ho.cells (g:=g) rfl _ _ h5
  have hadd:(⟨g,0,.none⟩:Addr).add (i*ptR.size+0)=⟨g,i,.none⟩:=by rw[addr_add];simp[ptR]
  rw[hadd] at h6
  exact h6
theorem SM.lenv (h:SM o B s bs tv uv S w):∃A c,tv=.slice A S.rs.length c∧S.rs.length≤c∧c≤9223372036854775807:=by
 obtain⟨A,c,e,hc,hm,_⟩:=h.tasks.form
 exact⟨A,c,by rw[←h.len];exact e,by rw[←h.len];exact hc,hm⟩
theorem SM.lenu (h:SM o B s bs tv uv S w):∃A c,uv=.slice A S.turns.length c∧S.turns.length≤c∧c≤9223372036854775807:=by
 obtain⟨A,c,e,hc,hm,_⟩:=h.turns.form
 exact⟨A,c,e,hc,hm⟩
end
end Go.Proofs.Ytlngbdggehghgaa

namespace Go.Proofs.Ytlngbdggehghgaa
set_option linter.unusedSimpArgs false
set_option linter.unusedVariables false
open Go.RowKit
def readyS (S:SS):Int:=if S.closed=true then 9 else 0
def endedS (S:SS) (n:Int):Bool:=decide (1≤n)&&decide (n≤S.rs.length)&&(match S.rs[(n-1).toNat]? with|some r=>decide (r.wait.kind=2)|none=>false)
structure De where
 wait:Int
 obj:Int
 turn:Int
 beg:Int
structure RW where
 kinds:List (List De)
 flags:List Bool
 given:List Tk
 ret:List Tk
 waits:List Wa
 begun:List Int
def enS:Option Nat→RW→Wa→Bool
 |none,_,_=>false
 |some _,x,w=>if w.kind=4 then(x.flags[(w.obj%8).toNat]?).getD false else if w.kind=3 then !(x.flags[(w.obj%8).toNat]?).getD false else false
def canS (S:SS) (o:Option Nat) (x:RW) (r:Ru):Bool:=
 if r.wait.kind=0 then true else if r.wait.kind=2 then false else if r.wait.kind=1 then endedS S r.wait.obj else enS o x r.wait
def EnOk (o:Option Nat) (x:RW) (w:World):Prop:=∀W,Below w.heap.size w W→∀(t:Tk) (q:Wa),0≤q.obj→match o with
 |none=>Calls Try.prog 103 #[.agg #[],.agg t.cells.toArray,.agg q.cells.toArray] W fun e w'=>e=.returned (.bool (enS none x q))∧Below W.heap.size W w'
 |some b=>Calls Try.prog 87 #[.pointer (some ⟨b,0,none⟩),.agg t.cells.toArray,.agg q.cells.toArray] W fun e w'=>e=.returned (.bool (enS (some b) x q))∧Below W.heap.size W w'
section
variable {o:Option Nat} {B s:Nat} {bs:List Nat} {tv uv:Value} {S:SS} {w:World}
theorem ready_any (h:SM o B s bs tv uv S w):Calls Try.prog 30 #[.pointer (some ⟨s,0,none⟩)] w fun e w'=>e=.returned (.int .i64 (readyS S))∧Below w.heap.size w w':=by
 have c0:=h.box.c 0 _ rfl
 have c4:=h.box.c 4 _ rfl
 have hR:=Lib.hid (show readyS S=if S.closed=true then 9 else 0 from rfl)
 clear h
 cases hq:S.closed with
 |true=>
  rw[hq] at c4 hR
  cases o with
  |none=>
   simp only[WV] at c0
   go_enter Try.func30,Try.ntmps30
   go_wp2_with fail
   go_ret
   rw[hR.out]
   exact⟨rfl,Below.refl _ _⟩
  |some b=>
   simp only[WV] at c0
   go_enter Try.func30,Try.ntmps30
   go_wp2_with fail
   go_ret
   rw[hR.out]
   exact⟨rfl,Below.refl _ _⟩
 |false=>
  rw[hq] at c4 hR
  cases o with
  |none=>
   simp only[WV] at c0
   go_enter Try.func30,Try.ntmps30
   go_wp2_with fail
   go_ret
   rw[hR.out]
   exact⟨rfl,Below.refl _ _⟩
  |some b=>
   simp only[WV] at c0
   go_enter Try.func30,Try.ntmps30
   go_wp2_with fail
   go_ret
   rw[hR.out]
   exact⟨rfl,Below.refl _ _⟩
theorem ended_any (h:SM o B s bs tv uv S w) (n:Int) (h0:0≤n):Calls Try.prog 71 #[.pointer (some ⟨s,0,none⟩),.int .i64 n] w fun e w'=>e=.returned (.bool (endedS S n))∧Below w.heap.size w w':=by
 have c1:=h.box.c 1 _ rfl
 obtain⟨A,c,rfl,hlc,hc⟩:=h.lenv
 have hlen:=h.ok.few
 by_cases h1:1≤n
 ·by_cases h2:n≤S.rs.length
  ·have hi:(n-1).toNat<S.rs.length:=by omega
   obtain⟨b,hb,hr⟩:=h.run hi
   obtain⟨A',c',hA,_,_,hp⟩:=h.ptr hb
   have r7:=hr.c 7 _ rfl
   have hE:=Lib.hid (show endedS S n=decide ((S.rs[(n-1).toNat]).wait.kind=2) by unfold endedS;rw[List.getElem?_eq_getElem hi];simp[h1,h2])
   generalize S.rs[(n-1).toNat]=r at r7 hE hr
   injection hA with hA1 hA2 hA3
   subst hA1 hA3
   obtain⟨m,rfl⟩:∃m:Nat,n=(m:Int)+1:=⟨(n-1).toNat,by omega⟩
   have hm:((m:Int)+1-1).toNat=m:=by omega
   rw[hm] at hp
   have hs:=Lib.hid h
   clear h hr hb
   have hml:m<S.rs.length:=by omega
   by_cases hk:r.wait.kind=2
   ·rw[hk] at r7
    go_enter Try.func71,Try.ntmps71
    go_wp2_with fail
    go_ret
    rw[hE.out]
    exact⟨by simp[hk],Below.refl _ _⟩
   ·go_enter Try.func71,Try.ntmps71
    go_wp2_with fail
    go_ret
    rw[hE.out]
    exact⟨by simp[hk],Below.refl _ _⟩
  ·have hE:=Lib.hid (show endedS S n=false by unfold endedS;simp[h2])
   clear h
   go_enter Try.func71,Try.ntmps71
   go_wp2_with fail
   go_ret
   rw[hE.out]
   exact⟨by simp,Below.refl _ _⟩
 ·have hE:=Lib.hid (show endedS S n=false by unfold endedS;simp[h1])
  clear h
  go_enter Try.func71,Try.ntmps71
  go_wp2_with fail
  go_ret
  rw[hE.out]
  exact⟨by simp,Below.refl _ _⟩
theorem en_none (x:RW):EnOk none x w:=by
 intro W _ t q _
 simp only[Tk.cells,Wa.cells]
 go_enter Try.func103,Try.ntmps103
 go_wp2_with fail
 go_ret
 exact⟨rfl,bal (bal (ba _ _))⟩
theorem meth_en0 (w:World):(method 264 71 (.agg #[]) "Enabled").run Try.prog w=.ok (103,.agg #[]) w:=by kernel_rfl
theorem meth_en1 (b:Nat) (w:World):(method 264 27 (.pointer (some ⟨b,0,none⟩)) "Enabled").run Try.prog w=.ok (87,.pointer (some ⟨b,0,none⟩)) w:=by kernel_rfl
set_option maxHeartbeats 1000000 in
theorem can_any (x:RW) (h:SM o B s bs tv uv S w) (hE:EnOk o x w) {i b:Nat} {r:Ru} (hb:bs[i]?=some b) (hr:S.rs[i]?=some r) (ho:0≤r.wait.obj):
 Calls Try.prog 61 #[.pointer (some ⟨s,0,none⟩),.pointer (some ⟨b,0,none⟩)] w fun e w'=>e=.returned (.bool (canS S o x r))∧Below w.heap.size w w':=by
 have hc:=h.runs i b r hb hr
 have C:=Lib.hid (ended_any h r.wait.obj ho)
 have E:=Lib.hid hE
 have O:=Lib.hid ho
 have c0:=h.box.c 0 _ rfl
 have r0:=hc.c 0 _ rfl
 have r1:=hc.c 1 _ rfl
 have r2:=hc.c 2 _ rfl
 have r3:=hc.c 3 _ rfl
 have r4:=hc.c 4 _ rfl
 have r5:=hc.c 5 _ rfl
 have r6:=hc.c 6 _ rfl
 have r7:=hc.c 7 _ rfl
 have r8:=hc.c 8 _ rfl
 have r9:=hc.c 9 _ rfl
 clear h hE hc hb hr ho
 have hS:=Lib.hid (show canS S o x r=if r.wait.kind=0 then true else if r.wait.kind=2 then false else if r.wait.kind=1 then endedS S r.wait.obj else enS o x r.wait from rfl)
 by_cases k0:r.wait.kind=0
 ·rw[k0] at r7 hS
  go_enter Try.func61,Try.ntmps61
  go_wp2_with fail
  go_ret
  rw[hS.out]
  exact⟨rfl,Below.refl _ _⟩
 by_cases k2:r.wait.kind=2
 ·rw[k2] at r7 hS
  go_enter Try.func61,Try.ntmps61
  go_wp2_with fail
  go_ret
  rw[hS.out]
  exact⟨rfl,Below.refl _ _⟩
 by_cases k1:r.wait.kind=1
 ·rw[k1] at r7 hS
  go_enter Try.func61,Try.ntmps61
  go_wp2_with (go_at_call 71;refine C.out.mono ?_;rintro e w1 ⟨rfl,hb1⟩)
  go_ret
  rw[hS.out]
  exact⟨rfl,hb1⟩
 have hS2:=Lib.hid (show canS S o x r=enS o x r.wait by rw[hS.out,if_neg k0,if_neg k2,if_neg k1])
 clear hS
 cases o with
 |none=>
  simp only[WV] at c0
  have hm:=meth_en0
  go_enter Try.func61,Try.ntmps61
  go_wp2_with fail
  have g0:=gro_cell c0
  have p0:=gro_cell r0
  have p1:=gro_cell r1
  have p2:=gro_cell r2
  have p3:=gro_cell r3
  have p4:=gro_cell r4
  have p5:=gro_cell r5
  have p6:=gro_cell r6
  have p7:=gro_cell r7
  have p8:=gro_cell r8
  have p9:=gro_cell r9
  refine wp_region_gro (by kernel_rfl) (by kernel_rfl) ?_
  repeat(go_big_quiet_step (first|(go_at_call 103;exact Calls.gro_of (E.out _ (gro_below _ _) r.task r.wait O.out))|fail))
  refine wpQuiet_nil ?_
  refine gro_end fun W2 hb2=> ?_
  go_wp2_with fail
  go_ret
  rw[hS2.out]
  exact⟨rfl,hb2⟩
 |some b0=>
  simp only[WV] at c0
  have hm:=meth_en1 b0
  go_enter Try.func61,Try.ntmps61
  go_wp2_with fail
  have g0:=gro_cell c0
  have p0:=gro_cell r0
  have p1:=gro_cell r1
  have p2:=gro_cell r2
  have p3:=gro_cell r3
  have p4:=gro_cell r4
  have p5:=gro_cell r5
  have p6:=gro_cell r6
  have p7:=gro_cell r7
  have p8:=gro_cell r8
  have p9:=gro_cell r9
  refine wp_region_gro (by kernel_rfl) (by kernel_rfl) ?_
  repeat(go_big_quiet_step (first|(go_at_call 87;exact Calls.gro_of (E.out _ (gro_below _ _) r.task r.wait O.out))|fail))
  refine wpQuiet_nil ?_
  refine gro_end fun W2 hb2=> ?_
  go_wp2_with fail
  go_ret
  rw[hS2.out]
  exact⟨rfl,hb2⟩
end
end Go.Proofs.Ytlngbdggehghgaa

namespace Go.Proofs.Ytlngbdggehghgaa
set_option linter.unusedSimpArgs false
set_option linter.unusedVariables false
open Go.RowKit
def plc (S:SS) (p:Ru→Bool) (k:Nat):List Nat:=(List.range k).filter fun i=>match S.rs[i]? with|some r=>p r|none=>false
def enI (S:SS) (o:Option Nat) (x:RW):List Nat:=plc S (canS S o x) S.rs.length
def alI (S:SS):List Nat:=plc S (fun r=> !decide (r.wait.kind=2)) S.rs.length
def bxs (bs:List Nat) (l:List Nat):List Nat:=l.map fun i=>bs.getD i 0
theorem plc_snoc (S:SS) (p:Ru→Bool) {k:Nat} {r:Ru} (hr:S.rs[k]?=some r):plc S p (k+1)=plc S p k++if p r then[k] else[]:=by
 unfold plc
 rw[List.range_succ,List.filter_append]
 congr 1
 cases hp:p r<;>simp[List.filter,hr,hp]
theorem plc_len (S:SS) (p:Ru→Bool) (k:Nat):(plc S p k).length≤k:=by
 unfold plc
 have:=List.length_filter_le (fun i=>match S.rs[i]? with|some r=>p r|none=>false) (List.range k)
 rw[List.length_range] at this
 exact this
theorem plc_mem {S:SS} {p:Ru→Bool} {k i:Nat} (h:i∈plc S p k):i<k∧∃r,S.rs[i]?=some r∧p r=true:=by
 unfold plc at h
 simp only[List.mem_filter,List.mem_range] at h
 refine⟨h.1, ?_⟩
 cases e:S.rs[i]? with
 |none=>rw[e] at h;cases h.2
 |some r=>rw[e] at h;exact⟨r,rfl,h.2⟩
theorem infoP:(Try.prog.info? 98).map (fun i=>(i.zero,i.size,i.bytes))=some (some (.pointer none),ptR.size,8):=by kernel_rfl
theorem infoI:(Try.prog.info? 3).map (fun i=>(i.zero,i.size,i.bytes))=some (some (.int .i64 0),intR.size,8):=by kernel_rfl
theorem slP_one (w:World) (g b:Nat) (t:TypeId) (hg:g=w.heap.size):Sl ptR (w.alloc (.cells #[.pointer (some ⟨b,0,none⟩)] t)) (.slice (some ⟨g,0,none⟩) 1 1) [b]:=by
 subst hg
 refine⟨_,1,rfl,by simp,by omega,.inr ⟨w.heap.size,0,rfl,by simp,fun i x hi=> ?_⟩⟩
 cases i with
 |zero=>
  simp at hi
  subst hi
  refine⟨_,rfl,fun j u hu=> ?_⟩
  cases j with
  |zero=>simp at hu;subst hu;simp[ptR]
  |succ j=>simp at hu
 |succ i=>simp at hi
section
variable {o:Option Nat} {B s:Nat} {bs:List Nat} {tv uv:Value} {S:SS} {w:World}
set_option maxHeartbeats 2000000 in
theorem enabled_any (x:RW) (h:SM o B s bs tv uv S w) (hE:EnOk o x w) (ho:∀r∈S.rs,0≤r.wait.obj):
 Calls Try.prog 37 #[.pointer (some ⟨s,0,none⟩)] w fun e w'=> ∃v,e=.returned v∧Own ptR 98 w.heap.size w' v (bxs bs (enI S o x))∧Below w.heap.size w w':=by
 have c1:=h.box.c 1 _ rfl
 obtain⟨A,c,rfl,hlc,hc⟩:=h.lenv
 have hlen:=h.ok.few
 have HH:=Lib.hid h
 have CC:=Lib.hid (fun(W:World) (hb:Below w.heap.size w W) (i b:Nat) (r:Ru) (hbi:bs[i]?=some b) (hri:S.rs[i]?=some r)=>
  can_any x (h.up hb) (fun W' hb'=>hE W' (hb.trans (hb'.mono hb.size))) hbi hri (ho r (List.mem_of_getElem? hri)))
 clear h hE ho
 go_enter Try.func37,Try.ntmps37
 go_wp2_with fail
 go_loopw [3,5,11] (fun v _ i wr=> ∃k:Nat,k≤S.rs.length∧i=.int .i64 k∧Hid (Below w.heap.size w wr)∧Hid (Own ptR 98 w.heap.size wr v (bxs bs (plc S (canS S o x) k)))) (fun _ _ i _=>S.rs.length-(intOf i).toNat)
 case atStart=>exact⟨0,by omega,rfl,Below.refl _ _,Own.nil _ _ _ _⟩
 case round=>
  obtain⟨k,hk,rfl,hb,hown⟩:=hrel
  by_cases hlt:k<S.rs.length
  ·obtain⟨b,hbk,hcell⟩:=HH.out.run hlt
   obtain⟨A',c',hA,_,_,hp⟩:=HH.out.ptr hbk
   injection hA with hA1 hA2 hA3
   subst hA1 hA3
   clear hA2
   have hrk:S.rs[k]?=some S.rs[k]:=List.getElem?_eq_getElem hlt
   have hps:=Lib.hid (plc_snoc S (canS S o x) hrk)
   have hpl:=plc_len S (canS S o x) k
   have C1:=Lib.hid (CC.out wr hb.out k b _ hbk hrk)
   have hbb:=Lib.hid (show bs.getD k 0=b by rw[List.getD_eq_getElem?_getD,hbk];rfl)
   generalize hq:canS S o x S.rs[k]=q at C1 hps
   have Hq:=Lib.hid hq
   clear hcell hbk hrk hq
   have hp1:=cell_later hb.out hp
   have c11:=cell_later hb.out c1
   cases q with
   |false=>
    go_wp2_with (go_at_call 61;refine C1.out.mono ?_;rintro e w1 ⟨rfl,hb1⟩)
    go_roundw
    case rel=>exact⟨k+1,by omega,by go_num,hb.out.trans (hb1.mono hb.out.size),by have h1:=hown.out;have h2:=hps.out;simp at h2;rw[←h2] at h1;exact h1.up hb1⟩
    case measure=>simp[intOf];omega
   |true=>
    go_wp2_with (first
     |(go_at_call 61;refine C1.out.mono ?_;rintro e w1 ⟨rfl,hb1⟩)
     |(at_builtin;refine wpList_append_sl _ rfl (.tmp 18) (.tmp 20) 49 rfl ptR w.heap.size 98 _ 8 Try.underlying49 infoP rfl (by decide) _ (bxs bs (plc S (canS S o x) k)) rfl ((hown.out.up hb1).up (ba _ _)) _ [b] rfl (slP_one _ _ _ _ rfl) (by simp[bxs];omega) (by decide) (by simp;exact Nat.le_succ_of_le (Nat.le_trans hb.out.size hb1.size)) (fun w' _ cs y h=>ptR_flat _ _ _ _ h) ?_;intro v1 w2 hown1 hg1 hat1))
    go_roundw
    case rel=>
     have hbx:Below w.heap.size w w1:=hb.out.trans (hb1.mono hb.out.size)
     refine⟨k+1,by omega,by go_num, ?_, ?_⟩
     ·exact(hbx.trans ((ba w1 _).mono hbx.size)).grown hg1 (by simp;exact Nat.le_succ_of_le hbx.size) fun j hj=>((hown.out.lt j hj)).1
     ·have h2:=hps.out
      simp at h2
      show Own _ _ _ _ _ _
      rw[h2]
      unfold bxs at hown1⊢
      rw[List.map_append,List.map_cons,List.map_nil,hbb.out]
      exact hown1
    case measure=>simp[intOf];omega
  ·have hke:k=S.rs.length:=by omega
   have HK:=Lib.hid hke
   clear hke
   have c11:=cell_later hb.out c1
   go_wp2_with fail
   go_ret
   refine⟨_,rfl, ?_,hb.out⟩
   have h1:=hown.out
   rw[HK.out] at h1
   exact h1
set_option maxHeartbeats 2000000 in
theorem alive_any (h:SM o B s bs tv uv S w):
 Calls Try.prog 35 #[.pointer (some ⟨s,0,none⟩)] w fun e w'=> ∃v,e=.returned v∧Own ptR 98 w.heap.size w' v (bxs bs (alI S))∧Below w.heap.size w w':=by
 have c1:=h.box.c 1 _ rfl
 obtain⟨A,c,rfl,hlc,hc⟩:=h.lenv
 have hlen:=h.ok.few
 have HH:=Lib.hid h
 clear h
 go_enter Try.func35,Try.ntmps35
 go_wp2_with fail
 go_loopw [3,5,11] (fun v _ i wr=> ∃k:Nat,k≤S.rs.length∧i=.int .i64 k∧Hid (Below w.heap.size w wr)∧Hid (Own ptR 98 w.heap.size wr v (bxs bs (plc S (fun r=> !decide (r.wait.kind=2)) k)))) (fun _ _ i _=>S.rs.length-(intOf i).toNat)
 case atStart=>exact⟨0,by omega,rfl,Below.refl _ _,Own.nil _ _ _ _⟩
 case round=>
  obtain⟨k,hk,rfl,hb,hown⟩:=hrel
  by_cases hlt:k<S.rs.length
  ·obtain⟨b,hbk,hcell⟩:=HH.out.run hlt
   obtain⟨A',c',hA,_,_,hp⟩:=HH.out.ptr hbk
   injection hA with hA1 hA2 hA3
   subst hA1 hA3
   clear hA2
   have r7:=cell_later hb.out (hcell.c 7 _ rfl)
   have hrk:S.rs[k]?=some S.rs[k]:=List.getElem?_eq_getElem hlt
   have hps:=Lib.hid (plc_snoc S (fun r=> !decide (r.wait.kind=2)) hrk)
   have hpl:=plc_len S (fun r=> !decide (r.wait.kind=2)) k
   have hbb:=Lib.hid (show bs.getD k 0=b by rw[List.getD_eq_getElem?_getD,hbk];rfl)
   generalize S.rs[k]=r at r7 hps
   clear hcell hbk hrk
   have hp1:=cell_later hb.out hp
   have c11:=cell_later hb.out c1
   by_cases hq:r.wait.kind=2
   ·rw[hq] at r7
    have Hq:=Lib.hid hq
    clear hq
    go_wp2_with fail
    go_roundw
    case rel=>exact⟨k+1,by omega,by go_num,hb,by have h1:=hown.out;have h2:=hps.out;simp[Hq.out] at h2;rw[←h2] at h1;exact h1⟩
    case measure=>simp[intOf];omega
   ·go_wp2_with (at_builtin;refine wpList_append_sl _ rfl (.tmp 21) (.tmp 23) 49 rfl ptR w.heap.size 98 _ 8 Try.underlying49 infoP rfl (by decide) _ (bxs bs (plc S (fun r=> !decide (r.wait.kind=2)) k)) rfl (hown.out.up (ba _ _)) _ [b] rfl (slP_one _ _ _ _ rfl) (by simp[bxs];omega) (by decide) (by simp;exact Nat.le_succ_of_le hb.out.size) (fun w' _ cs y h=>ptR_flat _ _ _ _ h) ?_;intro v1 w2 hown1 hg1 hat1)
    go_roundw
    case rel=>
     refine⟨k+1,by omega,by go_num, ?_, ?_⟩
     ·exact(hb.out.trans ((ba wr _).mono hb.out.size)).grown hg1 (by simp;exact Nat.le_succ_of_le hb.out.size) fun j hj=>((hown.out.lt j hj)).1
     ·have h2:=hps.out
      simp[hq] at h2
      show Own _ _ _ _ _ _
      rw[h2]
      unfold bxs at hown1⊢
      rw[List.map_append,List.map_cons,List.map_nil,hbb.out]
      exact hown1
    case measure=>simp[intOf];omega
  ·have hke:k=S.rs.length:=by omega
   have HK:=Lib.hid hke
   clear hke
   have c11:=cell_later hb.out c1
   go_wp2_with fail
   go_ret
   refine⟨_,rfl, ?_,hb.out⟩
   have h1:=hown.out
   rw[HK.out] at h1
   exact h1
def nums (l:List Nat):List Int:=l.map fun(i:Nat)=>((i:Int)+1)
theorem slI_one (w:World) (g:Nat) (x:Int) (t:TypeId) (hg:g=w.heap.size) (hx:Bd x):Sl intR (w.alloc (.cells #[.int .i64 x] t)) (.slice (some ⟨g,0,none⟩) 1 1) [x]:=sl_one w g x t hg hx
set_option maxHeartbeats 2000000 in
theorem numbers_any (h:SM o B s bs tv uv S w) {v:Value} {l:List Nat} (hv:Sl ptR w v (bxs bs l)) (hl:∀i∈l,i<S.rs.length) (hll:l.length≤200):
 Calls Try.prog 36 #[v] w fun e w'=> ∃v',e=.returned v'∧Own intR 3 w.heap.size w' v' (nums l)∧Below w.heap.size w w':=by
 obtain⟨A,c,rfl,hlc,hc,hv⟩:=hv.open
 have hbl:(bxs bs l).length=l.length:=by simp[bxs]
 rw[hbl] at hv hlc⊢
 have hlen:=h.ok.few
 have HH:=Lib.hid h
 have HV:=Lib.hid hv
 have HL:=Lib.hid hl
 have HB:=Lib.hid hbl
 clear h hv hl hbl
 go_enter Try.func36,Try.ntmps36
 go_wp2_with fail
 go_loopw [3,5,8] (fun v _ i wr=> ∃k:Nat,k≤l.length∧i=.int .i64 k∧Hid (Below w.heap.size w wr)∧Hid (Own intR 3 w.heap.size wr v (nums (l.take k)))) (fun _ _ i _=>l.length-(intOf i).toNat)
 case atStart=>exact⟨0,by omega,rfl,Below.refl _ _,Own.nil _ _ _ _⟩
 case round=>
  obtain⟨k,hk,rfl,hb,hown⟩:=hrel
  by_cases hlt:k<l.length
  ·have hik:=HL.out l[k] (List.getElem_mem hlt)
   obtain⟨b,hbk,hcell⟩:=HH.out.run hik
   have hid:=HH.out.ok.ids l[k] _ (List.getElem?_eq_getElem hik)
   have r0:=cell_later hb.out (hcell.c 0 _ rfl)
   rw[hid] at r0
   have hbx:k<(bxs bs l).length:=by rw[HB.out];exact hlt
   obtain⟨b1,off,cs,h1,hb1lt,h2,h3⟩:=(HV.out.up hb.out).at_ hbx
   have h5:(bxs bs l)[k]=b:=by simp[bxs,hbk]
   rw[h5] at h2
   have hp:=h3 0 _ (by rw[h2];rfl)
   have hA:=h1
   subst hA
   have hps:=Lib.hid (show nums (l.take (k+1))=nums (l.take k)++[(l[k]:Int)+1] by unfold nums;rw[List.take_succ_eq_append_getElem hlt,List.map_append];rfl)
   generalize hn:((l[k]:Nat):Int)+1=n at r0 hps
   have hbn:Bd n:=by unfold Bd;omega
   have HN:=Lib.hid hbn
   have hnl:(nums (l.take k)).length≤200:=by simp[nums];omega
   clear hbn hn hcell hbk hid h5 h2 h3 hbx hik hb1lt
   simp only[ptR,Nat.mul_one,Nat.add_zero] at hp
   go_wp2_with (at_builtin;refine wpList_append_sl _ rfl (.tmp 12) (.tmp 18) 42 rfl intR w.heap.size 3 _ 8 Try.underlying42 infoI rfl (by decide) _ (nums (l.take k)) rfl (hown.out.up (ba _ _)) _ [n] rfl (slI_one _ _ _ _ rfl HN.out) (by simp;omega) (by decide) (by simp;exact Nat.le_succ_of_le hb.out.size) (fun w' _ cs y h=>intR_flat _ _ _ _ h) ?_;intro v1 w2 hown1 hg1 hat1)
   go_roundw
   case rel=>
    refine⟨k+1,by omega,by go_num, ?_, ?_⟩
    ·exact(hb.out.trans ((ba wr _).mono hb.out.size)).grown hg1 (by simp;exact Nat.le_succ_of_le hb.out.size) fun j hj=>((hown.out.lt j hj)).1
    ·show Own _ _ _ _ _ _
     rw[hps.out]
     exact hown1
   case measure=>simp[intOf];omega
  ·have hke:k=l.length:=by omega
   have HK:=Lib.hid hke
   clear hke
   go_wp2_with fail
   go_ret
   refine⟨_,rfl, ?_,hb.out⟩
   have h1:=hown.out
   rw[HK.out,List.take_length] at h1
   exact h1
theorem enI_lt (S:SS) (o:Option Nat) (x:RW):∀i∈enI S o x,i<S.rs.length:=fun _ hi=>(plc_mem hi).1
set_option maxHeartbeats 1000000 in
theorem Enabled_any (x:RW) (h:SM o B s bs tv uv S w) (hE:EnOk o x w) (ho:∀r∈S.rs,0≤r.wait.obj):
 Calls Try.prog 16 #[.pointer (some ⟨s,0,none⟩)] w fun e w'=> ∃v,e=.returned (.tuple #[v,.int .i64 (readyS S)])∧Own intR 3 w.heap.size w' v (if S.closed=true then[] else nums (enI S o x))∧Below w.heap.size w w':=by
 have C1:=Lib.hid (ready_any h)
 have C2:=Lib.hid (fun(W:World) (hb:Below w.heap.size w W)=>enabled_any x (h.up hb) (fun W' hb'=>hE W' (hb.trans (hb'.mono hb.size))) ho)
 have C3:=Lib.hid (fun(W:World) (hb:Below w.heap.size w W) (v:Value) (hv:Sl ptR W v (bxs bs (enI S o x)))=>numbers_any (h.up hb) hv (enI_lt S o x) (Nat.le_trans (plc_len _ _ _) h.ok.few))
 clear h hE ho
 cases hq:S.closed with
 |true=>
  have hR:=Lib.hid (show readyS S=9 by unfold readyS;rw[hq];rfl)
  clear hq
  go_enter Try.func16,Try.ntmps16
  go_wp2_with (go_at_call 30;refine C1.out.mono ?_;rw[hR.out];rintro e w1 ⟨rfl,hb1⟩)
  go_ret2
  rw[hR.out]
  exact⟨_,rfl,Own.nil _ _ _ _,hb1⟩
 |false=>
  have hR:=Lib.hid (show readyS S=0 by unfold readyS;rw[hq];rfl)
  clear hq
  go_enter Try.func16,Try.ntmps16
  go_wp2_with (first
   |(go_at_call 30;refine C1.out.mono ?_;rw[hR.out];rintro e w1 ⟨rfl,hb1⟩)
   |(go_at_call 37;refine(C2.out _ hb1).mono ?_;rintro e w2 ⟨v2,rfl,ho2,hb2⟩)
   |(go_at_call 36;refine(C3.out _ (hb1.trans (hb2.mono hb1.size)) _ ho2.sl).mono ?_;rintro e w3 ⟨v3,rfl,ho3,hb3⟩))
  go_ret2
  rw[hR.out]
  have hb12:=hb1.trans (hb2.mono hb1.size)
  exact⟨_,rfl,ho3.mono hb12.size,hb12.trans (hb3.mono hb12.size)⟩
end
end Go.Proofs.Ytlngbdggehghgaa
