/-
  Walks of sched's next, find, Age, Task, Stuck, Log, and slices.Clone, Contains at its types. Conditions: as each theorem says.
  No statement is proved here: pointers to boxes compared. Conditions: none.
  Walks of sched's Stuck, Log, of slices.Clone, Index, Contains at its types, of the reference's Same and SameLog, of the examples' Step and two. Conditions: as each theorem says.
  Walks of the examples' Step and two. Conditions: as each theorem says.
-/
import Derived.Test.YtlngbdggehghgaaScC
namespace Go.Proofs.Ytlngbdggehghgaa
set_option linter.unusedSimpArgs false
set_option linter.unusedVariables false
open Go.RowKit
def nextS (S:SS) (o:Option Nat) (x:RW):Int:=if S.most≤(S.turns.length:Int) then 3 else if enI S o x=[] then 4 else 0
section
variable {o:Option Nat} {B s:Nat} {bs:List Nat} {tv uv:Value} {S:SS} {w:World}
set_option maxHeartbeats 1000000 in
theorem next_any (x:RW) (h:SM o B s bs tv uv S w) (hE:EnOk o x w) (ho:∀r∈S.rs,0≤r.wait.obj):
 Calls Try.prog 31 #[.pointer (some ⟨s,0,none⟩)] w fun e w'=> ∃v,e=.returned (.tuple #[v,.int .i64 (nextS S o x)])∧Own ptR 98 w.heap.size w' v (if nextS S o x=0 then bxs bs (enI S o x) else[])∧Below w.heap.size w w':=by
 have c2:=h.box.c 2 _ rfl
 have c3:=h.box.c 3 _ rfl
 obtain⟨A,c,rfl,hlc,hc⟩:=h.lenu
 have hlen:=h.ok.few
 have hlm:=h.ok.most
 have hlt:=h.ok.cnt
 have C2:=Lib.hid (fun(W:World) (hb:Below w.heap.size w W)=>enabled_any x (h.up hb) (fun W' hb'=>hE W' (hb.trans (hb'.mono hb.size))) ho)
 have hel:(enI S o x).length≤200:=Nat.le_trans (plc_len _ _ _) h.ok.few
 clear h hE ho
 by_cases q1:S.most≤(S.turns.length:Int)
 ·rw[show nextS S o x=3 by unfold nextS;rw[if_pos q1],if_neg (by decide)]
  go_enter Try.func31,Try.ntmps31
  go_wp2_with fail
  go_quiet (fail)
  go_wp2_with fail
  go_ret2
  exact⟨_,rfl,Own.nil _ _ _ _,bdN (Below.refl _ _) nq⟩
 ·by_cases q2:enI S o x=[]
  ·rw[show nextS S o x=4 by unfold nextS;rw[if_neg q1,if_pos q2],if_neg (by decide)]
   have hz:=Lib.hid (show bxs bs (enI S o x)=[] by rw[q2];rfl)
   clear q2 hel
   go_enter Try.func31,Try.ntmps31
   go_wp2_with fail
   go_quiet (fail)
   go_wp2_with (go_at_call 37;refine(C2.out _ (bdN (Below.refl _ _) nq)).mono ?_;rw[hz.out];rintro e w2 ⟨v2,rfl,ho2,hb2⟩;obtain⟨A2,c2,rfl,_,_,ho3⟩:=ho2.form)
   go_ret2
   exact⟨_,rfl,Own.nil _ _ _ _,(bdN (Below.refl _ _) nq).trans hb2⟩
  ·rw[show nextS S o x=0 by unfold nextS;rw[if_neg q1,if_neg q2],if_pos rfl]
   have hz:(bxs bs (enI S o x)).length≠0:=by simpa[bxs] using q2
   have hz2:(bxs bs (enI S o x)).length≤200:=by simpa[bxs] using hel
   generalize bxs bs (enI S o x)=L at hz hz2 C2⊢
   clear q2 hel
   go_enter Try.func31,Try.ntmps31
   go_wp2_with fail
   go_quiet (fail)
   go_wp2_with (go_at_call 37;refine(C2.out _ (bdN (Below.refl _ _) nq)).mono ?_;rintro e w2 ⟨v2,rfl,ho2,hb2⟩;obtain⟨A2,c2,rfl,_,_,ho3⟩:=ho2.form)
   go_ret2
   exact⟨_,rfl,ho3,(bdN (Below.refl _ _) nq).trans hb2⟩
def findS (S:SS) (n:Int):Int:=if S.closed=true then 9 else if 1≤n∧n≤S.rs.length then 0 else 4
theorem find_any (h:SM o B s bs tv uv S w) (n:Int) (hn:Bd n):
 Calls Try.prog 33 #[.pointer (some ⟨s,0,none⟩),.int .i64 n] w fun e w'=>e=.returned (.tuple #[if findS S n=0 then .pointer (some ⟨bs.getD (n-1).toNat 0,0,none⟩) else .pointer none,.int .i64 (findS S n)])∧Below w.heap.size w w':=by
 have c1:=h.box.c 1 _ rfl
 obtain⟨A,c,rfl,hlc,hc⟩:=h.lenv
 have hlen:=h.ok.few
 have C1:=Lib.hid (ready_any h)
 unfold Bd at hn
 cases hq:S.closed with
 |true=>
  have hR:=Lib.hid (show readyS S=9 by unfold readyS;rw[hq];rfl)
  rw[show findS S n=9 by unfold findS;rw[hq];rfl,if_neg (by decide)]
  clear hq h
  go_enter Try.func33,Try.ntmps33
  go_wp2_with (go_at_call 30;refine C1.out.mono ?_;rw[hR.out];rintro e w1 ⟨rfl,hb1⟩)
  go_ret2
  exact⟨rfl,hb1⟩
 |false=>
  have hR:=Lib.hid (show readyS S=0 by unfold readyS;rw[hq];rfl)
  by_cases q1:1≤n
  ·by_cases q2:n≤S.rs.length
   ·have hF:=Lib.hid (show findS S n=0 by unfold findS;rw[hq];simp[q1,q2])
    have hi:(n-1).toNat<S.rs.length:=by omega
    obtain⟨b,hb,hr⟩:=h.run hi
    obtain⟨A',c',hA,_,_,hp⟩:=h.ptr hb
    injection hA with hA1 hA2 hA3
    subst hA1 hA3
    obtain⟨m,rfl⟩:∃m:Nat,n=(m:Int)+1:=⟨(n-1).toNat,by omega⟩
    have hm:((m:Int)+1-1).toNat=m:=by omega
    rw[hm] at hp hb
    rw[show bs.getD ((m:Int)+1-1).toNat 0=b by rw[hm,List.getD_eq_getElem?_getD,hb];rfl]
    clear h hr hb hA2 hq
    have hml:m<S.rs.length:=by omega
    go_enter Try.func33,Try.ntmps33
    go_wp2_with (go_at_call 30;refine C1.out.mono ?_;rw[hR.out];rintro e w1 ⟨rfl,hb1⟩;have c11:=cell_later hb1 c1;have hp1:=cell_later hb1 hp)
    go_ret2
    exact⟨rfl,hb1⟩
   ·rw[show findS S n=4 by unfold findS;rw[hq];simp[q2],if_neg (by decide)]
    clear hq h
    go_enter Try.func33,Try.ntmps33
    go_wp2_with (go_at_call 30;refine C1.out.mono ?_;rw[hR.out];rintro e w1 ⟨rfl,hb1⟩;have c11:=cell_later hb1 c1)
    go_ret2
    exact⟨rfl,hb1⟩
  ·rw[show findS S n=4 by unfold findS;rw[hq];simp[q1],if_neg (by decide)]
   clear hq h
   go_enter Try.func33,Try.ntmps33
   go_wp2_with (go_at_call 30;refine C1.out.mono ?_;rw[hR.out];rintro e w1 ⟨rfl,hb1⟩;have c11:=cell_later hb1 c1)
   go_ret2
   exact⟨rfl,hb1⟩
theorem find_lt {S:SS} {n:Int} (h:findS S n=0):(n-1).toNat<S.rs.length∧1≤n:=by
 unfold findS at h
 split at h
 ·cases h
 ·split at h
  ·omega
  ·cases h
def taskS (S:SS) (n:Int):Tk×Wa:=if findS S n=0 then((S.rs[(n-1).toNat]?).map fun r=>(r.task,r.wait)).getD (⟨0,0,0,0,0,0,0⟩,⟨0,0,0⟩) else(⟨0,0,0,0,0,0,0⟩,⟨0,0,0⟩)
set_option maxHeartbeats 1000000 in
theorem Task_any (h:SM o B s bs tv uv S w) (n:Int) (hn:Bd n):
 Calls Try.prog 13 #[.pointer (some ⟨s,0,none⟩),.int .i64 n] w fun e w'=>e=.returned (.tuple #[.agg (taskS S n).1.cells.toArray,.agg (taskS S n).2.cells.toArray,.int .i64 (findS S n)])∧Below w.heap.size w w':=by
 have C:=Lib.hid (fun W hb=>find_any (w:=W) (h.up hb) n hn)
 by_cases q:findS S n=0
 ·obtain⟨hlt,_⟩:=find_lt q
  obtain⟨b,hb,hr⟩:=h.run hlt
  have hbb:=Lib.hid (show bs.getD (n-1).toNat 0=b by rw[List.getD_eq_getElem?_getD,hb];rfl)
  rw[show taskS S n=((S.rs[(n-1).toNat]).task,(S.rs[(n-1).toNat]).wait) by unfold taskS;rw[if_pos q,List.getElem?_eq_getElem hlt];rfl,q]
  have hq:=Lib.hid q
  generalize S.rs[(n-1).toNat]=r at hr⊢
  have HR:=Lib.hid hr
  clear q h hr hb
  simp only[Tk.cells,Wa.cells]
  go_enter Try.func13,Try.ntmps13
  go_wp2_with (go_at_call 33;refine(C.out _ (bal (ba _ _))).mono ?_;rw[hq.out,hbb.out,if_pos rfl];rintro e w1 ⟨rfl,hb1⟩)
  have k4:=((Cells.new w [.int .i64 0,.int .i64 0,.int .i64 0,.int .i64 0,.int .i64 0,.int .i64 0,.int .i64 0] 35).alloc (.cells #[.int .i64 0,.int .i64 0,.int .i64 0] 37)).later hb1
  have k5:Cells w1 (w.heap.size+1) [.int .i64 0,.int .i64 0,.int .i64 0]:=(by simpa only[World.size_alloc] using(Cells.new (w.alloc (.cells #[.int .i64 0,.int .i64 0,.int .i64 0,.int .i64 0,.int .i64 0,.int .i64 0,.int .i64 0] 35)) [.int .i64 0,.int .i64 0,.int .i64 0] 37).later hb1)
  have y0:=k4.c 0 _ rfl
  have y1:=k4.c 1 _ rfl
  have y2:=k4.c 2 _ rfl
  have y3:=k4.c 3 _ rfl
  have y4:=k4.c 4 _ rfl
  have y5:=k4.c 5 _ rfl
  have y6:=k4.c 6 _ rfl
  have yf:=k4.f
  have yl:=k4.lt
  have z0:=k5.c 0 _ rfl
  have z1:=k5.c 1 _ rfl
  have z2:=k5.c 2 _ rfl
  have zf:=k5.f
  have zl:=k5.lt
  have kr:=(HR.out.later ((ba w _).trans ((ba _ _).mono (by simp)))).later hb1
  have r0:=kr.c 0 _ rfl
  have r1:=kr.c 1 _ rfl
  have r2:=kr.c 2 _ rfl
  have r3:=kr.c 3 _ rfl
  have r4:=kr.c 4 _ rfl
  have r5:=kr.c 5 _ rfl
  have r6:=kr.c 6 _ rfl
  have r7:=kr.c 7 _ rfl
  have r8:=kr.c 8 _ rfl
  have r9:=kr.c 9 _ rfl
  have rf:=kr.f
  have rl:=kr.lt
  go_wp2_with fail
  go_region
  go_wp2_with fail
  refine bodyPost_ret (v:=.tuple #[.agg #[.int .i64 r.task.id,.int .i64 r.task.kind,.int .i64 r.task.pc,.int .i64 r.task.a,.int .i64 r.task.b,.int .i64 r.task.c,.int .i64 r.task.d],.agg #[.int .i64 r.wait.kind,.int .i64 r.wait.obj,.int .i64 r.wait.til],.int .i64 0]) (by simp[results,Try.results13,go_sem, *]) rfl ⟨rfl, ?_⟩
  have hbw:Below w.heap.size w w1:=(bal (ba w _)).trans (hb1.mono (by simp;omega))
  exact bdd ((bset (bset (bset (bset (bset (bset (bset (bset (bset (bset hbw (by first|exact Nat.le_refl _|exact Nat.le_succ _) _) (by first|exact Nat.le_refl _|exact Nat.le_succ _) _) (by first|exact Nat.le_refl _|exact Nat.le_succ _) _) (by first|exact Nat.le_refl _|exact Nat.le_succ _) _) (by first|exact Nat.le_refl _|exact Nat.le_succ _) _) (by first|exact Nat.le_refl _|exact Nat.le_succ _) _) (by first|exact Nat.le_refl _|exact Nat.le_succ _) _) (by first|exact Nat.le_refl _|exact Nat.le_succ _) _) (by first|exact Nat.le_refl _|exact Nat.le_succ _) _) (by first|exact Nat.le_refl _|exact Nat.le_succ _) _))
 ·rw[show taskS S n=(⟨0,0,0,0,0,0,0⟩,⟨0,0,0⟩) by unfold taskS;rw[if_neg q]]
  generalize findS S n=e0 at q C⊢
  clear h
  simp only[Tk.cells,Wa.cells]
  go_enter Try.func13,Try.ntmps13
  go_wp2_with (go_at_call 33;refine(C.out _ (bal (ba _ _))).mono ?_;rw[if_neg q];rintro e w1 ⟨rfl,hb1⟩;have k4:=((Cells.new w [.int .i64 0,.int .i64 0,.int .i64 0,.int .i64 0,.int .i64 0,.int .i64 0,.int .i64 0] 35).alloc (.cells #[.int .i64 0,.int .i64 0,.int .i64 0] 37)).later hb1;have k5:Cells w1 (w.heap.size+1) [.int .i64 0,.int .i64 0,.int .i64 0]:=(by simpa only[World.size_alloc] using(Cells.new (w.alloc (.cells #[.int .i64 0,.int .i64 0,.int .i64 0,.int .i64 0,.int .i64 0,.int .i64 0,.int .i64 0] 35)) [.int .i64 0,.int .i64 0,.int .i64 0] 37).later hb1);have y0:=k4.c 0 _ rfl;have y1:=k4.c 1 _ rfl;have y2:=k4.c 2 _ rfl;have y3:=k4.c 3 _ rfl;have y4:=k4.c 4 _ rfl;have y5:=k4.c 5 _ rfl;have y6:=k4.c 6 _ rfl;have yf:=k4.f;have yl:=k4.lt;have z0:=k5.c 0 _ rfl;have z1:=k5.c 1 _ rfl;have z2:=k5.c 2 _ rfl;have zf:=k5.f;have zl:=k5.lt)
  refine bodyPost_ret (v:=.tuple #[.agg #[.int .i64 0,.int .i64 0,.int .i64 0,.int .i64 0,.int .i64 0,.int .i64 0,.int .i64 0],.agg #[.int .i64 0,.int .i64 0,.int .i64 0],.int .i64 e0]) (by simp[results,Try.results13,go_sem, *]) rfl ⟨rfl, ?_⟩
  have hbw:Below w.heap.size w w1:=(bal (ba w _)).trans (hb1.mono (by simp;omega))
  exact(bset (bset (bset (bset (bset (bset (bset (bset (bset (bset hbw (by first|exact Nat.le_refl _|exact Nat.le_succ _) _) (by first|exact Nat.le_refl _|exact Nat.le_succ _) _) (by first|exact Nat.le_refl _|exact Nat.le_succ _) _) (by first|exact Nat.le_refl _|exact Nat.le_succ _) _) (by first|exact Nat.le_refl _|exact Nat.le_succ _) _) (by first|exact Nat.le_refl _|exact Nat.le_succ _) _) (by first|exact Nat.le_refl _|exact Nat.le_succ _) _) (by first|exact Nat.le_refl _|exact Nat.le_succ _) _) (by first|exact Nat.le_refl _|exact Nat.le_succ _) _) (by first|exact Nat.le_refl _|exact Nat.le_succ _) _)
end
end Go.Proofs.Ytlngbdggehghgaa

namespace Go.Proofs.Ytlngbdggehghgaa
set_option linter.unusedSimpArgs false
set_option linter.unusedVariables false
open Go.RowKit
theorem size102:∃i,Try.prog.info? 102=some i∧i.size≠0:=by
 have h:(Try.prog.info? 102).map (fun i=>decide (i.size≠0))=some true:=by kernel_rfl
 obtain⟨i,hi,hb⟩:=Option.map_eq_some_iff.1 h
 exact⟨i,hi,by simpa using hb⟩
theorem run_equalIn_ptr {w:World} {b p:Nat} {cs ds:List Value} {u v:Value} (hb:Cells w b (u::cs)) (hp:Cells w p (v::ds)) (d:Nat):
 (Op.equalIn (d+1) 98 (.pointer (some ⟨b,0,none⟩)) (.pointer (some ⟨p,0,none⟩))).run Try.prog w=.ok (decide (b=p)) w:=by
 obtain⟨i,hi,hz⟩:=size102
 obtain⟨e,n,s1,_,_⟩:=World.shape?_of_cell? (hb.c 0 u rfl)
 obtain⟨e',n',s2,_,_⟩:=World.shape?_of_cell? (hp.c 0 v rfl)
 have f1:=hb.f
 have f2:=hp.f
 by_cases h:b=p
 ·subst h
  simp[Op.equalIn,run_underlying Try.underlying98,sizeOf,typeInfo,hi,hz,sameAddr,Result.andThen]
 ·have h2:(b==p)=false:=by simpa using h
  simp only at s1 s2
  simp[Op.equalIn,run_underlying Try.underlying98,sizeOf,typeInfo,hi,hz,sameAddr,h,h2,f1,f2,s1,s2,noView,viewAt,mayBeOne,stringish,Result.andThen]
theorem run_eql_ptr {w:World} {b p:Nat} {cs ds:List Value} {u v:Value} (hb:Cells w b (u::cs)) (hp:Cells w p (v::ds)):
 (binOp .eql 98 (.pointer (some ⟨b,0,none⟩)) (.pointer (some ⟨p,0,none⟩))).run Try.prog w=.ok (.bool (decide (b=p))) w:=by
 have h:(Op.equal 98 (.pointer (some ⟨b,0,none⟩)) (.pointer (some ⟨p,0,none⟩))).run Try.prog w=.ok (decide (b=p)) w:=run_equalIn_ptr hb hp 9999
 simp only[binOp]
 simp[h]
end Go.Proofs.Ytlngbdggehghgaa

namespace Go.Proofs.Ytlngbdggehghgaa
set_option linter.unusedSimpArgs false
set_option linter.unusedVariables false
open Go.RowKit
section
variable {o:Option Nat} {B s:Nat} {bs:List Nat} {tv uv:Value} {S:SS} {w:World}
theorem infoT:(Try.prog.info? 79).map (fun i=>(i.zero,i.size,i.bytes))=some (some (.agg #[.int .i64 0,.int .i64 0,.int .i64 0,.int .i64 0,.int .i64 0]),tnR.size,40):=by kernel_rfl
set_option maxHeartbeats 400000 in
theorem cloneT_any (v:Value) (xs:List Tn) (w:World) (hs:Sl tnR w v xs) (hsz:xs.length*40≤140737488355328):
 Calls Try.prog 38 #[v] w fun e w'=> ∃v',e=.returned v'∧Own tnR 79 w.heap.size w' v' xs∧Below w.heap.size w w':=by
 obtain⟨A,c,rfl,hc,hm,hs⟩:=hs.open
 have q:=fun(W:World) (A:Option Addr) (n c:Nat)=>Lib.run_eql_slice_nil (P:=Try.prog) W 50 79 A n c 0 0 Try.underlying50
 have hs0:=hs
 obtain⟨A',c',he,_,_,hA⟩:=hs
 injection he with e1 e2 e3
 subst e1 e3
 rcases hA with⟨hx0,h0⟩|⟨b,off,rfl,hlt,_⟩
 ·subst h0
  have hx:xs=[]:=List.eq_nil_of_length_eq_zero hx0
  subst hx
  cases A with
  |none=>
   go_enter Try.func38,Try.ntmps38
   go_wp2_with fail
   go_ret
   exact⟨_,rfl,Own.nil _ _ _ _,Below.refl _ _⟩
  |some a=>
   have HS:=Lib.hid hs0
   clear hs0
   go_enter Try.func38,Try.ntmps38
   go_wp2_with (at_builtin;refine wpList_append_sl _ rfl (.tmp 5) (.tmp 6) 50 rfl tnR w.heap.size 79 _ 40 Try.underlying50 infoT rfl (by decide) _ [] rfl (Own.empty _ _ _ (Nat.le_refl _)) _ [] rfl (HS.out.up (ba _ _)) (by simp) (by decide) (by simp) (fun w' _ cs y h=>tnR_flat _ _ _ _ h) ?_;intro v1 w1 hown1 hg1 hat1)
   go_ret
   refine⟨v1,rfl,by simpa using hown1,(ba _ _).grown hg1 (by simp) fun k hk=> ?_⟩
   cases hk
   exact Nat.le_refl _
 ·have HS:=Lib.hid hs0
  clear hs0
  go_enter Try.func38,Try.ntmps38
  go_wp2_with (at_builtin;refine wpList_append_sl _ rfl (.tmp 5) (.tmp 6) 50 rfl tnR w.heap.size 79 _ 40 Try.underlying50 infoT rfl (by decide) _ [] rfl (Own.empty _ _ _ (Nat.le_refl _)) _ xs rfl (HS.out.up (ba _ _)) (by simpa using hsz) (by decide) (by simp) (fun w' _ cs y h=>tnR_flat _ _ _ _ h) ?_;intro v1 w1 hown1 hg1 hat1)
  go_ret
  refine⟨v1,rfl,by simpa using hown1,(ba _ _).grown hg1 (by simp) fun k hk=> ?_⟩
  cases hk
  exact Nat.le_refl _
theorem Log_any (h:SM o B s bs tv uv S w):
 Calls Try.prog 20 #[.pointer (some ⟨s,0,none⟩)] w fun e w'=> ∃v,e=.returned (.tuple #[v,.int .i64 (readyS S)])∧Own tnR 79 w.heap.size w' v (if S.closed=true then[] else S.turns)∧Below w.heap.size w w':=by
 have C1:=Lib.hid (ready_any h)
 have c2:=h.box.c 2 _ rfl
 have hsz:S.turns.length*40≤140737488355328:=by have:=h.ok.cnt;have:=h.ok.most;omega
 have C2:=Lib.hid (fun(W:World) (hb:Below w.heap.size w W)=>cloneT_any uv S.turns W (h.up hb).turns.sl hsz)
 cases hq:S.closed with
 |true=>
  have hR:=Lib.hid (show readyS S=9 by unfold readyS;rw[hq];rfl)
  rw[hR.out,if_pos rfl]
  clear hq h
  go_enter Try.func20,Try.ntmps20
  go_wp2_with (go_at_call 30;refine C1.out.mono ?_;rw[hR.out];rintro e w1 ⟨rfl,hb1⟩)
  go_ret2
  exact⟨_,rfl,Own.nil _ _ _ _,hb1⟩
 |false=>
  have hR:=Lib.hid (show readyS S=0 by unfold readyS;rw[hq];rfl)
  rw[hR.out,if_neg (by simp)]
  clear hq h
  go_enter Try.func20,Try.ntmps20
  go_wp2_with (first
   |(go_at_call 30;refine C1.out.mono ?_;rw[hR.out];rintro e w1 ⟨rfl,hb1⟩;have c21:=cell_later hb1 c2)
   |(go_at_call 38;refine(C2.out _ hb1).mono ?_;rintro e w2 ⟨v2,rfl,ho2,hb2⟩))
  go_ret2
  exact⟨_,rfl,ho2.mono hb1.size,hb1.trans (hb2.mono hb1.size)⟩
set_option maxRecDepth 20000 in
theorem Contains_any (v:Value) (ps:List Nat) (b:Nat) (w:World) (hs:Sl ptR w v ps) (hlen:ps.length≤200) {u0:Value} {cs0:List Value} (hb:Cells w b (u0::cs0)) (hps:∀p∈ps,∃u cs,Cells w p (u::cs)):
 Calls Try.prog 50 #[v,.pointer (some ⟨b,0,none⟩)] w fun e w'=>e=.returned (.bool (decide (b∈ps)))∧w'=w:=by
 obtain⟨A,c,rfl,hc,hm,hs⟩:=hs.open
 have HS:=Lib.hid hs
 have HB:=Lib.hid hb
 have HP:=Lib.hid hps
 clear hb hps
 have hI:Calls Try.prog 68 #[.slice A ps.length c,.pointer (some ⟨b,0,none⟩)] w fun e w'=> ∃n:Int,e=.returned (.int .i64 n)∧decide (0≤n)=decide (b∈ps)∧w'=w:=by
  clear hs
  go_enter Try.func68,Try.ntmps68
  go_wp2_with fail
  go_loopw [8] (fun i wr=> ∃k:Nat,k≤ps.length∧i=.int .i64 k∧Hid (wr=w)∧Hid (b∉ps.take k)) (fun i _=>ps.length-(intOf i).toNat)
  case atStart=>exact⟨0,by omega,rfl,rfl,by show b∉List.take 0 ps;simp⟩
  case round=>
   obtain⟨k,hk,rfl,hw,hno⟩:=hrel
   by_cases hlt:k<ps.length
   ·obtain⟨g,off,cs,rfl,_,h2,h3⟩:=HS.out.at_ hlt
    have hp:=h3 0 _ (by rw[h2];rfl)
    simp only[ptR,Nat.mul_one,Nat.add_zero] at hp
    have hww:=hw.out
    subst hww
    have hps:=Lib.hid (show ps.take (k+1)=ps.take k++[ps[k]] from List.take_succ_eq_append_getElem hlt)
    have hmem:=Lib.hid (List.getElem_mem hlt)
    generalize ps[k]=p at hp hps hmem
    clear h2 h3
    obtain⟨up,cp,hcp⟩:=HP.out p hmem.out
    have heq:=run_eql_ptr HB.out hcp
    clear hcp
    by_cases hq:b=p
    ·rw[decide_eq_true hq] at heq
     have Hq:=Lib.hid hq
     clear hq
     go_wp2_with fail
     go_ret
     exact⟨_,rfl,by simp[Hq.out,hmem.out],rfl⟩
    ·rw[decide_eq_false hq] at heq
     have Hq:=Lib.hid hq
     clear hq
     go_wp2_with fail
     go_roundw
     case rel=>exact⟨k+1,by omega,by go_num,trivial,by show b∉_;rw[hps.out];simp[hno.out,Hq.out]⟩
     case measure=>simp[intOf];omega
   ·have hke:k=ps.length:=by omega
    have HK:=Lib.hid hke
    clear hke
    go_wp2_with fail
    go_ret
    have h1:=hno.out
    rw[HK.out,List.take_length] at h1
    exact⟨_,rfl,by simp[h1],hw.out⟩
 have HI:=Lib.hid hI
 clear hI hs
 go_enter Try.func50,Try.ntmps50
 go_wp2_with (go_at_call 68;refine HI.out.mono ?_;rintro e w1 ⟨n,rfl,hd,rfl⟩)
 go_ret
 exact⟨by rw[←hd];rfl,rfl⟩
end
set_option maxHeartbeats 1000000 in
theorem same_any (v1 v2:Value) (xs ys:List Int) (w:World) (h1:Sl intR w v1 xs) (h2:Sl intR w v2 ys):
 Calls Try.prog 29 #[v1,v2] w fun e w'=>e=.returned (.bool (decide (xs=ys)))∧Below w.heap.size w w':=by
 obtain⟨A,c,rfl,hc,hm,h1⟩:=h1.open
 obtain⟨A',c',rfl,hc',hm',h2⟩:=h2.open
 have H1:=Lib.hid h1
 have H2:=Lib.hid h2
 clear h1 h2
 by_cases hl:xs.length=ys.length
 ·have HL:=Lib.hid hl
  have hle:ys.length≤9223372036854775807:=by omega
  rw[hl] at H1 hc⊢
  clear hl
  go_enter Try.func29,Try.ntmps29
  go_wp2_with fail
  go_loopw [5] (fun i wr=> ∃k:Nat,k≤ys.length∧i=.int .i64 k∧Hid (Below w.heap.size w wr)∧Hid (xs.take k=ys.take k)) (fun i _=>ys.length-(intOf i).toNat)
  case atStart=>exact⟨0,by omega,rfl,Below.refl _ _,by show List.take 0 xs=List.take 0 ys;simp⟩
  case round=>
   obtain⟨k,hk,rfl,hb,heq⟩:=hrel
   by_cases hlt:k<ys.length
   ·have hlt':k<xs.length:=by rw[HL.out];exact hlt
    obtain⟨g,off,cs,rfl,_,p2,p3⟩:=(H1.out.up hb.out).at_ hlt'
    obtain⟨g',off',cs',rfl,_,q2,q3⟩:=(H2.out.up hb.out).at_ hlt
    have HX:=Lib.hid (show xs.take (k+1)=xs.take k++[xs[k]] from List.take_succ_eq_append_getElem hlt')
    have HY:=Lib.hid (show ys.take (k+1)=ys.take k++[ys[k]] from List.take_succ_eq_append_getElem hlt)
    have HG:=Lib.hid (show xs=ys→xs[k]=ys[k] from fun e=>by subst e;rfl)
    generalize xs[k]=a at p2 HX HG
    generalize ys[k]=d at q2 HY HG
    have a0:=p3 0 _ (by rw[p2.1];rfl)
    have d0:=q3 0 _ (by rw[q2.1];rfl)
    simp only[intR,Nat.add_zero,Nat.mul_one] at a0 d0
    clear p2 p3 q2 q3 hlt'
    skip
    by_cases hq:a=d
    ·have Hq:=Lib.hid hq
     subst hq
     skip
     go_wp2_with fail
     go_quiet (fail)
     go_wp2_with fail
     go_roundw
     case rel=>exact⟨k+1,by omega,by go_num,bdN hb.out _,by show List.take _ xs=_;rw[HX.out,HY.out,heq.out]⟩
     case measure=>simp[intOf];omega
    ·have Hq:=Lib.hid hq
     have hq2:(a !=d)=true:=by simpa using hq
     skip
     go_wp2_with fail
     go_quiet (fail)
     go_wp2_with fail
     go_ret
     exact⟨by rw[decide_eq_false fun e=>Hq.out (HG.out e)];rfl,bdN hb.out _⟩
   ·have hke:k=ys.length:=by omega
    have HK:=Lib.hid hke
    clear hke
    go_wp2_with fail
    go_ret
    have h1:=heq.out
    rw[HK.out,List.take_length,←HL.out,List.take_length] at h1
    exact⟨by simp[h1],hb.out⟩
 ·have hne:xs≠ys:=fun e=>hl (by rw[e])
  have HN:=Lib.hid hne
  clear hne
  go_enter Try.func29,Try.ntmps29
  go_wp2_with fail
  go_ret
  exact⟨by simp[HN.out],Below.refl _ _⟩
end Go.Proofs.Ytlngbdggehghgaa

namespace Go.Proofs.Ytlngbdggehghgaa
set_option linter.unusedSimpArgs false
set_option linter.unusedVariables false
open Go.RowKit
theorem meth_st0 (w:World):(method 264 71 (.agg #[]) "Step").run Try.prog w=.ok (104,.agg #[]) w:=by kernel_rfl
theorem meth_st1 (b:Nat) (w:World):(method 264 27 (.pointer (some ⟨b,0,none⟩)) "Step").run Try.prog w=.ok (81,.pointer (some ⟨b,0,none⟩)) w:=by kernel_rfl
def st0 (t:Tk):Tk×Wa:=({t with a:=wrap64 (t.a+1)},if wrap64 (t.a+1)=t.b then⟨2,0,0⟩ else⟨0,0,0⟩)
set_option maxHeartbeats 1000000 in
theorem step_none (t:Tk) (w:World):Calls Try.prog 104 #[.agg #[],.agg t.cells.toArray] w fun e w'=>e=.returned (.tuple #[.agg (st0 t).1.cells.toArray,.agg (st0 t).2.cells.toArray,.slice none 0 0])∧Below w.heap.size w w':=by
 simp only[Tk.cells,Wa.cells,st0]
 by_cases q:wrap64 (t.a+1)=t.b
 ·rw[if_pos q]
  go_enter Try.func104,Try.ntmps104
  go_wp2_with fail
  refine bodyPost_ret (v:=.tuple #[.agg #[.int .i64 t.id,.int .i64 t.kind,.int .i64 t.pc,.int .i64 (wrap64 (t.a+1)),.int .i64 t.b,.int .i64 t.c,.int .i64 t.d],.agg #[.int .i64 2,.int .i64 0,.int .i64 0],.slice none 0 0]) (by first|(simp[results,Try.results104,go_sem];done)|(simp[results,Try.results104,go_sem];exact q.symm)) rfl ⟨rfl, ?_⟩
  repeat(first|exact ba _ _|exact Below.refl _ _|refine bset ?_ (by first|exact Nat.le_refl _|(simp;done)|(simp;omega)) _|refine bal ?_)
 ·rw[if_neg q]
  go_enter Try.func104,Try.ntmps104
  go_wp2_with fail
  refine bodyPost_ret (v:=.tuple #[.agg #[.int .i64 t.id,.int .i64 t.kind,.int .i64 t.pc,.int .i64 (wrap64 (t.a+1)),.int .i64 t.b,.int .i64 t.c,.int .i64 t.d],.agg #[.int .i64 0,.int .i64 0,.int .i64 0],.slice none 0 0]) (by first|(simp[results,Try.results104,go_sem];done)|(simp[results,Try.results104,go_sem];exact q.symm)) rfl ⟨rfl, ?_⟩
  repeat(first|exact ba _ _|exact Below.refl _ _|refine bset ?_ (by first|exact Nat.le_refl _|(simp;done)|(simp;omega)) _|refine bal ?_)
end Go.Proofs.Ytlngbdggehghgaa
