/-
  No statement is proved here: words for memory that the other texts of this seat use: what a slice, a row of cells, a struct reads as, and that it still reads so in every later world. Conditions: none.
  No statement is proved here: words for memory, second part: a store of one element into a slice of the call's own, clear. Conditions: none.
  No statement is proved here: words for memory, third part: a block whose cells are known (a boxed struct); small lists. Conditions: none.
  No statement is proved here: a region that draws its order, reads, and calls what makes memory and leaves the old memory alone: one walk in the order of the text. Conditions: none.
  No statement is proved here: a slice still reads as it did behind a store into a cell that is none of its own. Conditions: none.
  No statement is proved here: a region that draws its order: first operations that only read, in whatever order, then the rest, which is walked in the order of the text: each of the rest is the only one that may come up, or a part of a tuple. Conditions: none.
  No statement is proved here: a region that draws its order: first operations that read, or call what makes memory and leaves the old memory alone, in whatever order; then the rest, which is walked in the order of the text. Conditions: none.
  No statement is proved here: a region that draws its order and ends in a store: all else reads, or calls what leaves the old memory alone; a part of a tuple may come behind the store. Conditions: none.
  No statement is proved here: a region that draws its order within a round of a range over a function: it reads, and calls what makes memory and leaves the old memory alone: one walk in the order of the text. Conditions: none.
  No statement is proved here: a drawn region whose first operations come up in one order and whose rest only reads. Conditions: as each theorem says.
  No statement is proved here: a drawn region, walked in parts: operations that come up in one order; two that come up in either order; a rest that only reads. Conditions: as each theorem says.
  No statement is proved here: the last step of each law's row, once for all laws: what is read of the arguments before the call is read after it, where nothing old has turned; and slices among the arguments, opened. Conditions: none.
  Plain law: lists of numbers in the order of their keys, and of themselves where the keys are equal: such a list is one alone; how two of them are merged. Conditions: as each theorem says.
-/
import Derived.WalkKit
import Derived.WalkSpells
import Derived.WalkLawsBesides
import Derived.Deep.QuietTactic
import Derived.BigQuiet
import Derived.Lib.Hide
import Derived.StillTailTactics
import Derived.Orders
import Derived.RangeFuncNested
import Derived.OrdersIn
import Derived.ProofKit
import Derived.Lib.SmallJoins
namespace Go.Proofs.Ytlngbdggehghgaa
set_option linter.unusedSimpArgs false
set_option linter.unusedVariables false
open Go.RowKit
structure Rep (α:Type) where
 size:Nat
 is:World→List Value→α→Prop
 len:∀{w cs x},is w cs x→cs.length=size
 one:∀{w cs x},is w cs x→∀u∈cs,u.oneCell'=true
 up:∀{w w' cs x},Below w.heap.size w w'→is w cs x→is w' cs x
def At (w:World) (b off:Nat) (cs:List Value):Prop:=∀j u,cs[j]?=some u→w.cell? ⟨b,off+j,none⟩=some u
theorem At.up {w w':World} {b off:Nat} {cs:List Value} (h:At w b off cs) (hb:Below w.heap.size w w'):At w' b off cs:=fun j u hu=>by
 have h1:=h j u hu
 exact(hb.cell (p:=⟨b,off+j,none⟩) (World.block_lt_of_cell? _ _ h1)).trans h1
theorem At.of {w w':World} {b off:Nat} {cs:List Value} (h:At w b off cs) (hk:∀j,w'.cell? ⟨b,j,none⟩=w.cell? ⟨b,j,none⟩):At w' b off cs:=fun j u hu=>
 (hk _).trans (h j u hu)
def Bd (x:Int):Prop:= -9223372036854775808≤x∧x≤9223372036854775807
def Sl {α:Type} (R:Rep α) (w:World) (v:Value) (xs:List α):Prop:=
 ∃A c,v=.slice A xs.length c∧xs.length≤c∧c≤9223372036854775807∧
  ((xs.length=0∧c=0)∨∃b off,A=some ⟨b,off,none⟩∧b<w.heap.size∧∀i x,xs[i]?=some x→∃cs,R.is w cs x∧At w b (off+i*R.size) cs)
theorem Sl.up {α:Type} {R:Rep α} {w w':World} {v:Value} {xs:List α} (h:Sl R w v xs) (hb:Below w.heap.size w w'):Sl R w' v xs:=by
 obtain⟨A,c,rfl,hc,hm,h⟩:=h
 refine⟨A,c,rfl,hc,hm, ?_⟩
 rcases h with h|⟨b,off,rfl,hlt,h⟩
 ·exact .inl h
 ·refine .inr ⟨b,off,rfl,Nat.lt_of_lt_of_le hlt hb.size,fun i x hi=> ?_⟩
  obtain⟨cs,h1,h2⟩:=h i x hi
  exact⟨cs,R.up hb h1,h2.up hb⟩
theorem Sl.none {α:Type} (R:Rep α) (w:World):Sl R w (.slice .none 0 0) []:=⟨.none,0,rfl,Nat.le_refl _,by omega,.inl ⟨rfl,rfl⟩⟩
theorem Sl.nil {α:Type} {R:Rep α} {w:World} {A:Option Addr} {n c:Nat} {xs:List α} (h:Sl R w (.slice A n c) xs):n=xs.length:=by
 obtain⟨A',c',he,_⟩:=h
 injection he
theorem Sl.open {α:Type} {R:Rep α} {w:World} {v:Value} {xs:List α} (h:Sl R w v xs):∃A c,v=.slice A xs.length c∧xs.length≤c∧c≤9223372036854775807∧Sl R w (.slice A xs.length c) xs:=by
 have h':=h
 obtain⟨A,c,rfl,hc,hm,_⟩:=h
 exact⟨A,c,rfl,hc,hm,h'⟩
theorem Sl.at_ {α:Type} {R:Rep α} {w:World} {A:Option Addr} {n c k:Nat} {xs:List α} (h:Sl R w (.slice A n c) xs) (hk:k<xs.length):
 ∃b off cs,A=some ⟨b,off,.none⟩∧b<w.heap.size∧R.is w cs xs[k]∧At w b (off+k*R.size) cs:=by
 obtain⟨A',c',he,hc,hm,h⟩:=h
 injection he with e1 e2 e3
 subst e1 e3
 rcases h with⟨_,h0⟩|⟨b,off,rfl,hlt,h⟩
 ·omega
 ·obtain⟨cs,h1,h2⟩:=h k xs[k] (List.getElem?_eq_getElem hk)
  exact⟨b,off,cs,rfl,hlt,h1,h2⟩
def intR:Rep Int where
 size:=1
 is _ cs x:=cs=[.int .i64 x]∧Bd x
 len h:=by rw[h.1];rfl
 one h:=by rw[h.1];simp[Value.oneCell']
 up _ h:=h
def Rep.many {α:Type} (R:Rep α) (w:World):List Value→List α→Prop
 |cells,[]=>cells=[]
 |cells,x::xs=> ∃cs rest,cells=cs++rest∧R.is w cs x∧R.many w rest xs
theorem Rep.many_len {α:Type} {R:Rep α} {w:World}:∀{xs:List α} {cells:List Value},R.many w cells xs→cells.length=xs.length*R.size
 |[],cells,h=>by simp only[Rep.many] at h;subst h;simp
 |x::xs,cells,h=>by
  obtain⟨cs,rest,rfl,h1,h2⟩:=h
  have e:=Rep.many_len h2
  have e1:=R.len h1
  rw[List.length_append,e,e1,List.length_cons,Nat.add_mul,Nat.one_mul,Nat.add_comm]
theorem Rep.many_up {α:Type} {R:Rep α} {w w':World} (hb:Below w.heap.size w w'):∀{xs:List α} {cells:List Value},R.many w cells xs→R.many w' cells xs
 |[],_,h=>h
 |_::_,_,⟨cs,rest,e,h1,h2⟩=>⟨cs,rest,e,R.up hb h1,Rep.many_up hb h2⟩
theorem Rep.many_append {α:Type} {R:Rep α} {w:World}:∀{xs ys:List α} {cells more:List Value},R.many w cells xs→R.many w more ys→R.many w (cells++more) (xs++ys)
 |[],ys,cells,more,h,h'=>by simp only[Rep.many] at h;subst h;simpa using h'
 |x::xs,ys,_,more,⟨cs,rest,e,h1,h2⟩,h'=>⟨cs,rest++more,by rw[e,List.append_assoc],h1,Rep.many_append h2 h'⟩
theorem Rep.many_one {α:Type} {R:Rep α} {w:World} {x:α} {cs:List Value} (h:R.is w cs x):R.many w cs [x]:=⟨cs,[],by simp,h,rfl⟩
theorem Rep.many_at {α:Type} {R:Rep α} {w:World}:∀{xs:List α} {cells:List Value} {i:Nat} {x:α},R.many w cells xs→xs[i]?=some x→
 ∃cs,R.is w cs x∧∀j u,cs[j]?=some u→cells[i*R.size+j]?=some u
 |[],_,i,x,_,hi=>by simp at hi
 |y::xs,_,0,x,⟨cs,rest,e,h1,h2⟩,hi=>by
  simp at hi;subst hi;subst e
  refine⟨cs,h1,fun j u hu=> ?_⟩
  have hj:j<cs.length:=by
   rcases Nat.lt_or_ge j cs.length with h|h
   ·exact h
   ·rw[List.getElem?_eq_none h] at hu;cases hu
  rw[Nat.zero_mul,Nat.zero_add,List.getElem?_append_left hj]
  exact hu
 |y::xs,_,i+1,x,⟨cs,rest,e,h1,h2⟩,hi=>by
  simp at hi;subst e
  obtain⟨ds,h3,h4⟩:=Rep.many_at h2 hi
  refine⟨ds,h3,fun j u hu=> ?_⟩
  have e1:=R.len h1
  have e2:(i+1)*R.size+j=cs.length+(i*R.size+j):=by rw[Nat.add_mul,e1];omega
  rw[e2,List.getElem?_append_right (by omega),Nat.add_sub_cancel_left]
  exact h4 j u hu
def Own {α:Type} (R:Rep α) (e:TypeId) (B:Nat) (w:World) (v:Value) (xs:List α):Prop:=∃cells,w.ownsRow B e R.size v xs.length cells∧R.many w cells xs
theorem Own.nil {α:Type} (R:Rep α) (e:TypeId) (B:Nat) (w:World):Own R e B w (.slice .none 0 0) []:=⟨[],World.ownsRow_nil w B e R.size,rfl⟩
theorem Own.sl {α:Type} {R:Rep α} {e:TypeId} {B:Nat} {w:World} {v:Value} {xs:List α} (h:Own R e B w v xs):Sl R w v xs:=by
 obtain⟨cells,ho,hm⟩:=h
 have ho':=ho
 obtain⟨hl,h2⟩:=ho
 rcases h2 with⟨rfl,h0⟩|⟨g,cap,cur,rfl,_,hg,hnc,hcm,hcs,htake⟩
 ·have:xs=[]:=List.eq_nil_of_length_eq_zero h0
  subst this
  exact Sl.none R w
 ·refine⟨some ⟨g,0,.none⟩,cap,rfl,hnc,by simp only[maxLen] at hcm;omega,.inr ⟨g,0,rfl,(Array.getElem?_eq_some_iff.1 hg).1,fun i x hi=> ?_⟩⟩
  obtain⟨cs,h3,h4⟩:=R.many_at hm hi
  refine⟨cs,h3,fun j u hu=> ?_⟩
  have h5:=ho'.cells (g:=g) rfl _ u (h4 j u hu)
  have hadd:(⟨g,0,.none⟩:Addr).add (i*R.size+j)=⟨g,i*R.size+j,.none⟩:=by unfold Addr.add;split<;>simp_all
  rw[hadd] at h5
  rw[show 0+i*R.size+j=i*R.size+j from by omega]
  exact h5
theorem Own.up {α:Type} {R:Rep α} {e:TypeId} {B:Nat} {w w':World} {v:Value} {xs:List α} (h:Own R e B w v xs) (hb:Below w.heap.size w w'):Own R e B w' v xs:=by
 obtain⟨cells,ho,hm⟩:=h
 refine⟨cells,⟨ho.1, ?_⟩,R.many_up hb hm⟩
 rcases ho.2 with h2|⟨g,cap,cur,hv,hB,hg,r⟩
 ·exact .inl h2
 ·exact .inr ⟨g,cap,cur,hv,hB,(hb.block g (Array.getElem?_eq_some_iff.1 hg).1).trans hg,r⟩
theorem Own.mono {α:Type} {R:Rep α} {e:TypeId} {B B':Nat} {w:World} {v:Value} {xs:List α} (h:Own R e B w v xs) (hB:B'≤B):Own R e B' w v xs:=by
 obtain⟨cells,ho,hm⟩:=h
 refine⟨cells,⟨ho.1, ?_⟩,hm⟩
 rcases ho.2 with h2|⟨g,cap,cur,hv,hg,r⟩
 ·exact .inl h2
 ·exact .inr ⟨g,cap,cur,hv,Nat.le_trans hB hg,r⟩
def Rep.flat {α:Type} (R:Rep α):Prop:=∀w w' cs x,R.is w cs x→R.is w' cs x
theorem intR_flat:intR.flat:=fun _ _ _ _ h=>h
theorem Rep.many_flat {α:Type} {R:Rep α} (hf:R.flat) {w w':World}:∀{xs:List α} {cells:List Value},R.many w cells xs→R.many w' cells xs
 |[],_,h=>h
 |_::_,_,⟨cs,rest,e,h1,h2⟩=>⟨cs,rest,e,hf _ _ _ _ h1,Rep.many_flat hf h2⟩
theorem Rep.many_ones {α:Type} {R:Rep α} {w:World}:∀{xs:List α} {cells:List Value},R.many w cells xs→∀u∈cells,u.oneCell'=true
 |[],_,h=>by simp only[Rep.many] at h;subst h;simp
 |x::xs,_,⟨cs,rest,e,h1,h2⟩=>by
  subst e
  intro u hu
  rcases List.mem_append.1 hu with hu|hu
  ·exact R.one h1 u hu
  ·exact Rep.many_ones h2 u hu
theorem gather {α:Type} {R:Rep α} {w:World} {b off:Nat}:∀{xs:List α},(∀i x,xs[i]?=some x→∃cs,R.is w cs x∧At w b (off+i*R.size) cs)→∃cells,R.many w cells xs∧At w b off cells:=by
 intro xs
 induction xs generalizing off with
 |nil=>exact fun _=>⟨[],rfl,fun j u hu=>by simp at hu⟩
 |cons x xs ih=>
  intro h
  obtain⟨cs,h1,h2⟩:=h 0 x rfl
  obtain⟨cells,h3,h4⟩:=ih (off:=off+R.size) fun i y hi=>by
   obtain⟨ds,h5,h6⟩:=h (i+1) y (by simpa using hi)
   exact⟨ds,h5,by rw[show off+R.size+i*R.size=off+(i+1)*R.size from by rw[Nat.add_mul];omega];exact h6⟩
  refine⟨cs++cells,⟨cs,cells,rfl,h1,h3⟩,fun j u hu=> ?_⟩
  have hl:=R.len h1
  rcases Nat.lt_or_ge j cs.length with hj|hj
  ·rw[List.getElem?_append_left hj] at hu
   have:=h2 j u hu
   simpa using this
  ·rw[List.getElem?_append_right hj] at hu
   have:=h4 _ u hu
   rw[show off+R.size+(j-cs.length)=off+j from by omega] at this
   exact this
theorem addr_add (b o j:Nat):(⟨b,o,.none⟩:Addr).add j=⟨b,o+j,.none⟩:=by unfold Addr.add;split<;>simp_all
section
variable {P:Program} (w:World)
theorem run_append_of_nil (base:Nat) (t ty e:TypeId) (i:TypeInfo) (size:Nat) (ht:P.underlying t=some (.slice e)) (hi:P.info? e=some i)
 (v:Value) (n:Nat) (xs:List Value) (hown:w.ownsRow base e size v n xs) (c:Nat):(Builtin.append_ #[t,t] ty #[v,.slice none 0 c]).run P w=.ok v w:=by
 rcases hown.2 with⟨rfl,rfl⟩|⟨g,cap,cur,rfl,_,_,hnc,_⟩
 ·simp[Builtin.append_,run_underlying ht,sizeOf,typeInfo,hi,Builtin.lenOf,Builtin.firstCells]
 ·simp[Builtin.append_,run_underlying ht,sizeOf,typeInfo,hi,Builtin.lenOf,Builtin.firstCells,hnc,storeCells]
theorem run_append_sl {α:Type} (R:Rep α) (base:Nat) (t ty e:TypeId) (z:Value) (bytes:Nat) (ht:P.underlying t=some (.slice e))
 (hinfo:(P.info? e).map (fun i=>(i.zero,i.size,i.bytes))=some (some z,R.size,bytes)) (hzs:z.cells.size=R.size) (hsz:0<R.size)
 (v:Value) (xs:List α) (hown:Own R e base w v xs) (x:Value) (ys:List α) (hx:Sl R w x ys)
 (hbytes:(xs.length+ys.length)*bytes≤140737488355328) (hby:0<bytes) (hbase:base≤w.heap.size)
 (keep:∀w',w.grownBy w' v.ownBlock→∀cs y,R.is w cs y→R.is w' cs y):
 ∃v' w',(Builtin.append_ #[t,t] ty #[v,x]).run P w=.ok v' w'∧Own R e base w' v' (xs++ys)∧w.grownBy w' v.ownBlock∧(v'.ownBlock=v.ownBlock∨v'.ownBlock=some w.heap.size):=by
 obtain⟨i,hi,hz,hs,hb⟩:=info_parts hinfo
 obtain⟨cells,ho,hm⟩:=hown
 obtain⟨A,c,rfl,hc,hcm,hA⟩:=hx
 have keepm:∀w',w.grownBy w' v.ownBlock→∀{l:List α} {cl:List Value},R.many w cl l→R.many w' cl l:=by
  intro w' hg l
  induction l with
  |nil=>exact fun h=>h
  |cons y l ih=>exact fun⟨cs,rest,e,h1,h2⟩=>⟨cs,rest,e,keep w' hg cs y h1,ih h2⟩
 have h63:xs.length+ys.length≤maxLen:=by
  simp only[maxLen]
  have:=Nat.mul_le_mul_left (xs.length+ys.length) (show 1≤bytes from hby)
  omega
 rcases hA with⟨hn,h0⟩|⟨b,off,rfl,hlt,hcells⟩
 ·have hy:ys=[]:=List.eq_nil_of_length_eq_zero hn
  subst hy
  cases A with
  |none=>exact⟨v,w,run_append_of_nil w base t ty e i R.size ht hi v _ cells ho c,⟨cells,by simpa using ho,by simpa using hm⟩,World.grownBy.refl w _,.inl rfl⟩
  |some a0=>
   obtain⟨v',w',hrun,h2,h3,_,h5⟩:=run_append_own_at (P:=P) w base t ty e i z R.size bytes ht hi hz hs hb hzs hsz v _ cells ho a0 0 c [] (by simp)
    (fun j u hu=>by simp at hu) (fun u hu=>by simp at hu) (by simpa using h63) (by simpa using hbytes) hbase
   exact⟨v',w',hrun,⟨cells,by simpa using h2,by simpa using keepm w' h3 hm⟩,h3,h5⟩
 ·obtain⟨more,hm2,hat⟩:=gather hcells
  obtain⟨v',w',hrun,h2,h3,_,h5⟩:=run_append_own_at (P:=P) w base t ty e i z R.size bytes ht hi hz hs hb hzs hsz v _ cells ho ⟨b,off,.none⟩ ys.length c more (R.many_len hm2)
   (fun j u hu=>by rw[addr_add];exact hat j u hu) (R.many_ones hm2) h63 hbytes hbase
  exact⟨v',w',hrun,⟨cells++more,by rw[List.length_append];exact h2,R.many_append (keepm w' h3 hm) (keepm w' h3 hm2)⟩,h3,h5⟩
theorem wp_append_sl {α:Type} {o:Oper} {a:Act} {K:Act→World→Prop} {Q:Exit→Act→World→Prop} (s y:Operand) (t:TypeId)
 (ho:o.op=.call {callee:=.builtin .append,args:=#[s,y],argTypes:=#[t,t]})
 (R:Rep α) (base:Nat) (e:TypeId) (z:Value) (bytes:Nat) (ht:P.underlying t=some (.slice e))
 (hinfo:(P.info? e).map (fun i=>(i.zero,i.size,i.bytes))=some (some z,R.size,bytes)) (hzs:z.cells.size=R.size) (hsz:0<R.size)
 (v:Value) (xs:List α) (hs:a.eval s=v) (hown:Own R e base w v xs) (x:Value) (ys:List α) (he:a.eval y=x) (hx:Sl R w x ys)
 (hbytes:(xs.length+ys.length)*bytes≤140737488355328) (hby:0<bytes) (hbase:base≤w.heap.size)
 (keep:∀w',w.grownBy w' v.ownBlock→∀cs y,R.is w cs y→R.is w' cs y)
 (h:∀v' w',Own R e base w' v' (xs++ys)→w.grownBy w' v.ownBlock→(v'.ownBlock=v.ownBlock∨v'.ownBlock=some w.heap.size)→K (a.put o.dst v') w'):o.wp P a w K Q:=by
 obtain⟨v',w',hrun,h2,h3,h4⟩:=run_append_sl (P:=P) w R base t o.type e z bytes ht hinfo hzs hsz v xs hown x ys hx hbytes hby hbase keep
 unfold Oper.wp execOp
 simp only[ho,resolve,invoke,builtin,Sem.run_bind,Sem.run_pure,Result.andThen_ok,List.map_toArray,List.map_cons,List.map_nil,hs,he,hrun]
 exact h v' w' h2 h3 h4
theorem wpList_append_sl {α:Type} {ops:Array Oper} {rest:List Oper} {o:Oper} {a:Act} {Q:Exit→Act→World→Prop} (hgd:o.guard=none) (s y:Operand) (t:TypeId)
 (ho:o.op=.call {callee:=.builtin .append,args:=#[s,y],argTypes:=#[t,t]})
 (R:Rep α) (base:Nat) (e:TypeId) (z:Value) (bytes:Nat) (ht:P.underlying t=some (.slice e))
 (hinfo:(P.info? e).map (fun i=>(i.zero,i.size,i.bytes))=some (some z,R.size,bytes)) (hzs:z.cells.size=R.size) (hsz:0<R.size)
 (v:Value) (xs:List α) (hs:a.eval s=v) (hown:Own R e base w v xs) (x:Value) (ys:List α) (he:a.eval y=x) (hx:Sl R w x ys)
 (hbytes:(xs.length+ys.length)*bytes≤140737488355328) (hby:0<bytes) (hbase:base≤w.heap.size)
 (keep:∀w',w.grownBy w' v.ownBlock→∀cs y,R.is w cs y→R.is w' cs y)
 (h:∀v' w',Own R e base w' v' (xs++ys)→w.grownBy w' v.ownBlock→(v'.ownBlock=v.ownBlock∨v'.ownBlock=some w.heap.size)→wpList P ops Q rest (a.put o.dst v') w'):wpList P ops Q (o::rest) a w:=
 wpList_plain hgd fun _ hK=>wp_append_sl w s y t ho R base e z bytes ht hinfo hzs hsz v xs hs hown x ys he hx hbytes hby hbase keep fun v' w' h2 h3 h4=>hK _ _ (h v' w' h2 h3 h4)
end
theorem Own.form {α:Type} {R:Rep α} {e:TypeId} {B:Nat} {w:World} {v:Value} {xs:List α} (h:Own R e B w v xs):∃A c,v=.slice A xs.length c∧xs.length≤c∧c≤9223372036854775807∧Own R e B w (.slice A xs.length c) xs:=by
 have h':=h
 obtain⟨A,c,rfl,hc,hm,_⟩:=h.sl.open
 exact⟨A,c,rfl,hc,hm,h'⟩
theorem Own.lt {α:Type} {R:Rep α} {e:TypeId} {B:Nat} {w:World} {v:Value} {xs:List α} (h:Own R e B w v xs):∀k,v.ownBlock=some k→B≤k∧k<w.heap.size:=h.elim fun _ h=>h.1.lt
theorem Own.empty {α:Type} (R:Rep α) (e:TypeId) {B:Nat} (w:World) (hB:B≤w.heap.size):Own R e B (w.alloc (.cells #[] e)) (.slice (some ⟨w.heap.size,0,.none⟩) 0 0) []:=
 ⟨[],World.ownsRow_made w #[] 0 hB (by simp[maxLen]) (by simp),rfl⟩
theorem Sl.drop {α:Type} {R:Rep α} {w:World} {b off n c:Nat} {xs:List α} (h:Sl R w (.slice (some ⟨b,off,.none⟩) n c) xs) {k:Nat} (hk:k≤xs.length) {o' n' c':Nat} (ho:o'=off+k*R.size) (hn:n'=xs.length-k) (hc:c'=c-k):
 Sl R w (.slice (some ⟨b,o',.none⟩) n' c') (xs.drop k):=by
 subst ho hn hc
 obtain⟨A',d,he,h1,h2,h3⟩:=h
 injection he with e1 e2 e3
 subst e1 e2 e3
 refine⟨_,_,by rw[List.length_drop],by rw[List.length_drop];omega,by omega, ?_⟩
 rcases h3 with⟨h3,h4⟩|⟨b',off',he,hlt,hcells⟩
 ·exact .inl ⟨by rw[List.length_drop];omega,by omega⟩
 ·injection he with he
  injection he with he1 he2
  subst he1 he2
  refine .inr ⟨b,_,rfl,hlt,fun i x hi=> ?_⟩
  rw[List.getElem?_drop] at hi
  obtain⟨cs,h4,h5⟩:=hcells _ x hi
  exact⟨cs,h4,by rw[show off+k*R.size+i*R.size=off+(k+i)*R.size from by rw[Nat.add_mul];omega];exact h5⟩
theorem ba (w:World) (o:Obj):Below w.heap.size w (w.alloc o):=(Below.refl _ _).alloc (Nat.le_refl _) o
theorem bdN {B:Nat} {a w:World} (h:Below B a w) (n:Nat):Below B a (w.drewN n):=⟨h.os,h.tape,h.output,h.size,h.block⟩
end Go.Proofs.Ytlngbdggehghgaa
namespace Go.Proofs.Ytlngbdggehghgaa
open Go.RowKit
def putAt:World→Nat→Nat→List Value→World
 |w,_,_,[]=>w
 |w,g,off,u::us=>putAt (w.setCell ⟨g,off,none⟩ u) g (off+1) us
def setAll:List Value→Nat→List Value→List Value
 |l,_,[]=>l
 |l,off,u::us=>setAll (l.set off u) (off+1) us
theorem setAll_right:∀(us:List Value) (a b:List Value) (off:Nat),setAll (a++b) (a.length+off) us=a++setAll b off us
 |[],_,_,_=>rfl
 |u::us,a,b,off=>by
  simp only[setAll]
  rw[List.set_append_right _ _ (by omega),show a.length+off-a.length=off from by omega,show a.length+off+1=a.length+(off+1) from by omega]
  exact setAll_right us a _ _
theorem setAll_whole:∀(us pre old rest:List Value),us.length=old.length→setAll (pre++old++rest) pre.length us=pre++us++rest
 |[],pre,old,rest,h=>by
  have:old=[]:=List.eq_nil_of_length_eq_zero (by simpa using h.symm)
  subst this
  rfl
 |u::us,pre,o::old,rest,h=>by
  simp only[setAll]
  have h1:(pre++o::old++rest).set pre.length u=(pre++[u])++old++rest:=by
   rw[List.append_assoc,List.set_append_right _ _ (Nat.le_refl _),Nat.sub_self]
   simp
  rw[h1]
  have h2:=setAll_whole us (pre++[u]) old rest (by simpa using h)
  rw[List.length_append,List.length_singleton] at h2
  rw[h2]
  simp
 |_::_,_,[],_,h=>by simp at h
theorem Rep.many_set {α:Type} {R:Rep α} {w:World} {x:α} {cs:List Value} (hx:R.is w cs x):∀{ys:List α} {k:Nat} {cells:List Value},R.many w cells ys→k<ys.length→R.many w (setAll cells (k*R.size) cs) (ys.set k x)
 |[],k,_,_,hk=>by simp at hk
 |y::ys,0,_,⟨ds,rest,e,h1,h2⟩,_=>by
  subst e
  have h3:=setAll_whole cs [] ds rest (by rw[R.len hx,R.len h1])
  simp only[List.nil_append,List.length_nil] at h3
  rw[Nat.zero_mul,h3]
  exact⟨cs,rest,rfl,hx,h2⟩
 |y::ys,k+1,_,⟨ds,rest,e,h1,h2⟩,hk=>by
  subst e
  have h3:=Rep.many_set hx h2 (k:=k) (by simpa using hk)
  have e1:(k+1)*R.size=ds.length+k*R.size:=by rw[R.len h1,Nat.add_mul];omega
  rw[e1,setAll_right]
  exact⟨ds,_,rfl,h1,h3⟩
theorem grownBy_trans {a b c:World} {row:Option Nat} (h:a.grownBy b row) (k:b.grownBy c row):a.grownBy c row:=
 ⟨k.os.trans h.os,k.tape.trans h.tape,k.output.trans h.output,Nat.le_trans h.size k.size,fun i hi hne=>(k.block i (Nat.lt_of_lt_of_le hi h.size) hne).trans (h.block i hi hne)⟩
theorem owns_putAt {base e size g cap n:Nat}:∀(us:List Value) {w:World} {xs:List Value} (off:Nat),w.ownsRow base e size (.slice (some ⟨g,0,none⟩) n cap) n xs→
 (putAt w g off us).ownsRow base e size (.slice (some ⟨g,0,none⟩) n cap) n (setAll xs off us)∧w.grownBy (putAt w g off us) (some g)
 |[],w,_,_,h=>⟨h,World.grownBy.refl w _⟩
 |u::us,w,_,off,h=>by
  obtain⟨h1,h2⟩:=h.stored off u
  obtain⟨h3,h4⟩:=owns_putAt us (off+1) h1
  exact⟨h3,grownBy_trans h2 h4⟩
theorem Own.put {α:Type} {R:Rep α} {e B g cap n k:Nat} {w:World} {ys:List α} {x:α} {cs:List Value} (h:Own R e B w (.slice (some ⟨g,0,none⟩) n cap) ys) (hk:k<ys.length) (hx:R.is w cs x)
 (keep:∀w',w.grownBy w' (some g)→∀cs y,R.is w cs y→R.is w' cs y):
 Own R e B (putAt w g (k*R.size) cs) (.slice (some ⟨g,0,none⟩) n cap) (ys.set k x)∧w.grownBy (putAt w g (k*R.size) cs) (some g):=by
 obtain⟨cells,ho,hm⟩:=h
 have hn:n=ys.length:=by
  rcases ho.2 with⟨h',_⟩|⟨g',cap',cur,h',_⟩
  ·cases h'
  ·injection h'
 subst hn
 obtain⟨h1,h2⟩:=owns_putAt cs (k*R.size) ho
 refine⟨⟨_,by rw[List.length_set];exact h1, ?_⟩,h2⟩
 have h3:=R.many_set hx hm hk
 have keepm:∀{l:List α} {cl:List Value},R.many w cl l→R.many (putAt w g (k*R.size) cs) cl l:=by
  intro l
  induction l with
  |nil=>exact fun h=>h
  |cons y l ih=>exact fun⟨cs,rest,e,h1,h4⟩=>⟨cs,rest,e,keep _ h2 cs y h1,ih h4⟩
 exact keepm h3
theorem Own.cell_ {α:Type} {R:Rep α} {e B g cap n k:Nat} {w:World} {ys:List α} (h:Own R e B w (.slice (some ⟨g,0,none⟩) n cap) ys) (hk:k<ys.length):
 ∃cs,R.is w cs ys[k]∧(∀j u,cs[j]?=some u→w.cell? ⟨g,k*R.size+j,none⟩=some u)∧∀j,w.frozen? ⟨g,j,none⟩=false:=by
 obtain⟨b,off,cs,he,_,h1,h2⟩:=h.sl.at_ hk
 injection he with he
 injection he with e1 e2
 subst e1 e2
 obtain⟨cells,ho,hm⟩:=h
 have hn:n=ys.length:=by
  rcases ho.2 with⟨h',_⟩|⟨g',cap',cur,h',_⟩
  ·cases h'
  ·injection h'
 subst hn
 exact⟨cs,h1,fun j u hu=>by have:=h2 j u hu;rwa[Nat.zero_add] at this,fun j=>ho.frozenAt j⟩
theorem Own.block {α:Type} {R:Rep α} {e B g cap n:Nat} {w:World} {ys:List α} (h:Own R e B w (.slice (some ⟨g,0,none⟩) n cap) ys):B≤g∧g<w.heap.size∧n=ys.length:=by
 have h1:=h.lt g rfl
 obtain⟨cells,ho,hm⟩:=h
 refine⟨h1.1,h1.2, ?_⟩
 rcases ho.2 with⟨h',_⟩|⟨g',cap',cur,h',_⟩
 ·cases h'
 ·injection h'
theorem Rep.many_take {α:Type} {R:Rep α} {w:World}:∀{ys:List α} {cells:List Value} (i:Nat),R.many w cells ys→i≤ys.length→R.many w (cells.take (i*R.size)) (ys.take i)
 |_,_,0,_,_=>by simp only[Nat.zero_mul,List.take_zero];rfl
 |[],_,i+1,_,h=>by simp at h
 |y::ys,_,i+1,⟨ds,rest,e,h1,h2⟩,h=>by
  subst e
  have e1:(i+1)*R.size=ds.length+i*R.size:=by rw[R.len h1,Nat.add_mul];omega
  rw[e1,List.take_length_add_append,List.take_succ_cons]
  exact⟨ds,_,rfl,h1,Rep.many_take i h2 (by simpa using h)⟩
theorem Own.cut {α:Type} {R:Rep α} {e B g cap n i:Nat} {w:World} {ys:List α} (h:Own R e B w (.slice (some ⟨g,0,none⟩) n cap) ys) (hi:i≤ys.length):Own R e B w (.slice (some ⟨g,0,none⟩) i cap) (ys.take i):=by
 obtain⟨_,_,hn⟩:=h.block
 subst hn
 obtain⟨cells,ho,hm⟩:=h
 refine⟨cells.take (i*R.size), ?_,R.many_take i hm hi⟩
 have hl:(ys.take i).length=i:=by rw[List.length_take];omega
 rw[hl]
 have hle:i*R.size≤ys.length*R.size:=Nat.mul_le_mul_right _ hi
 refine⟨by rw[List.length_take,ho.1];omega, ?_⟩
 rcases ho.2 with⟨h',_⟩|⟨g',cap',cur,h',hB,hg,hnc,hcm,hcs,htake⟩
 ·cases h'
 ·injection h' with e1 e2 e3
  injection e1 with e1
  injection e1 with e1 _
  subst e1 e3
  refine .inr ⟨g,cap,cur,rfl,hB,hg,by omega,hcm,hcs, ?_⟩
  rw[←htake,List.take_take,Nat.min_eq_left hle]
theorem at_world {C:World→Prop} {w:World} (F:World→Prop) (hF:F w) (h:∀W,F W→C W):C w:=h w hF
theorem bdd {B:Nat} {a w:World} (h:Below B a w):Below B a w.drew:=h.drew
theorem cell_grown {w w':World} {row:Option Nat} {a:Addr} {v:Value} (hg:w.grownBy w' row) (h:w.cell? a=some v) (hne:row≠some a.block):w'.cell? a=some v:=
 hg.cell h (Ne.symm hne)
theorem Own.kept {α:Type} {R:Rep α} {e:TypeId} {B:Nat} {w w':World} {v:Value} {xs:List α} {row:Option Nat} (h:Own R e B w v xs) (hg:w.grownBy w' row) (hne:∀k,v.ownBlock=some k→row≠some k) (keep:∀cs y,R.is w cs y→R.is w' cs y):Own R e B w' v xs:=by
 obtain⟨cells,ho,hm⟩:=h
 refine⟨cells,ho.kept hg ?_, ?_⟩
 ·cases hv:v.ownBlock with
  |none=>exact .inl rfl
  |some k=>exact .inr (fun e=>hne k hv e.symm)
 ·have keepm:∀{l:List α} {cl:List Value},R.many w cl l→R.many w' cl l:=by
   intro l
   induction l with
   |nil=>exact fun h=>h
   |cons y l ih=>exact fun⟨cs,rest,e,h1,h4⟩=>⟨cs,rest,e,keep cs y h1,ih h4⟩
  exact keepm hm
theorem Own.apart {α β:Type} {R:Rep α} {S:Rep β} {e f:TypeId} {B C:Nat} {w:World} {v u:Value} {xs:List α} {ys:List β} (h:Own R e B w v xs) (h':Own S f C w u ys) (hne:e≠f):∀k,v.ownBlock=some k→u.ownBlock≠some k:=by
 intro k hk hu
 obtain⟨_,ho,_⟩:=h
 obtain⟨_,ho',_⟩:=h'
 rcases ho.2 with⟨rfl,_⟩|⟨g,cap,cur,rfl,_,hg,_⟩
 ·cases hk
 ·rcases ho'.2 with⟨rfl,_⟩|⟨g',cap',cur',rfl,_,hg',_⟩
  ·cases hu
  ·cases hk;cases hu
   rw[hg] at hg'
   injection hg' with hg'
   injection hg' with _ ht
   exact hne ht
theorem Own.at_ {α:Type} {R:Rep α} {e B c n k:Nat} {A:Option Addr} {w:World} {ys:List α} (h:Own R e B w (.slice A n c) ys) (hk:k<ys.length):
 ∃g cs,A=some ⟨g,0,none⟩∧B≤g∧g<w.heap.size∧R.is w cs ys[k]∧(∀j u,cs[j]?=some u→w.cell? ⟨g,k*R.size+j,none⟩=some u)∧∀j,w.frozen? ⟨g,j,none⟩=false:=by
 obtain⟨b,off,cs,rfl,_⟩:=h.sl.at_ hk
 have h0:off=0∧True:=by
  obtain⟨_,ho,_⟩:=h
  rcases ho.2 with⟨h',_⟩|⟨g',_,_,h',_⟩
  ·cases h'
  ·injection h' with h';injection h' with h';injection h' with _ h';exact⟨h',trivial⟩
 obtain⟨rfl,_⟩:=h0
 obtain⟨cs,h1,h2,h3⟩:=h.cell_ hk
 exact⟨b,cs,rfl,h.block.1,h.block.2.1,h1,h2,h3⟩
theorem grownBy_set (w:World) (g j:Nat) (u:Value):w.grownBy (w.setCell ⟨g,j,none⟩ u) (some g):=
 ⟨rfl,rfl,rfl,by simp,fun k _ hk=>Below.heap_setCell _ _ _ _ (fun e=>hk (by rw[e]))⟩
theorem grownBy_putAt:∀(us:List Value) (w:World) (g off:Nat),w.grownBy (putAt w g off us) (some g)
 |[],w,_,_=>World.grownBy.refl w _
 |u::us,w,g,off=>grownBy_trans (grownBy_set w g off u) (grownBy_putAt us _ g _)
theorem putAt_other:∀(us:List Value) (w:World) (g off j:Nat),j<off→(putAt w g off us).cell? ⟨g,j,none⟩=w.cell? ⟨g,j,none⟩
 |[],_,_,_,_,_=>rfl
 |u::us,w,g,off,j,h=>by
  rw[putAt,putAt_other us _ g (off+1) j (by omega)]
  exact World.cell?_setCell_other w _ _ u (fun e=>by injection e;omega)
theorem put_at:∀(us:List Value) {w:World} {g off:Nat},(∀j,j<us.length→∃u,w.cell? ⟨g,off+j,none⟩=some u)→At (putAt w g off us) g off us
 |[],_,_,_,_=>fun j u hu=>by simp at hu
 |u::us,w,g,off,h=>fun j v hv=>by
  have h0:∀j,j<us.length→∃v,(w.setCell ⟨g,off,none⟩ u).cell? ⟨g,off+1+j,none⟩=some v:=fun j hj=>by
   obtain⟨v,hv⟩:=h (j+1) (by simpa using hj)
   refine⟨v, ?_⟩
   rw[World.cell?_setCell_other w _ _ u (fun e=>by injection e;omega),show off+1+j=off+(j+1) from by omega]
   exact hv
  have ih:=put_at us h0
  cases j with
  |zero=>
   simp at hv
   subst hv
   obtain⟨v,hv⟩:=h 0 (by simp)
   show(putAt (w.setCell ⟨g,off,none⟩ u) g (off+1) us).cell? ⟨g,off,none⟩=_
   rw[putAt_other us _ g _ off (by omega)]
   exact World.cell?_setCell_same w _ u (by simpa using hv)
  |succ j=>
   have:=ih j v (by simpa using hv)
   rw[show off+1+j=off+(j+1) from by omega] at this
   exact this
end Go.Proofs.Ytlngbdggehghgaa
namespace Go.Proofs.Ytlngbdggehghgaa
open Go.RowKit
structure Cells (W:World) (g:Nat) (cs:List Value):Prop where
 c:∀j u,cs[j]?=some u→W.cell? ⟨g,j,none⟩=some u
 f:∀j,W.frozen? ⟨g,j,none⟩=false
 lt:g<W.heap.size
theorem Cells.new (w:World) (cs:List Value) (t:TypeId):Cells (w.alloc (.cells cs.toArray t)) w.heap.size cs:=
 ⟨fun j u hu=>by rw[World.cell?_alloc_new];simpa using hu,fun j=>by simp,by simp⟩
theorem Cells.later {W W':World} {g:Nat} {cs:List Value} (h:Cells W g cs) (hb:Below W.heap.size W W'):Cells W' g cs:=
 ⟨fun j u hu=>cell_later hb (h.c j u hu),fun j=>(hb.frozen (p:=⟨g,j,none⟩) h.lt).trans (h.f j),Nat.lt_of_lt_of_le h.lt hb.size⟩
theorem Cells.alloc {W:World} {g:Nat} {cs:List Value} (h:Cells W g cs) (o:Obj):Cells (W.alloc o) g cs:=h.later (ba _ _)
theorem Cells.drew {W:World} {g:Nat} {cs:List Value} (h:Cells W g cs):Cells W.drew g cs:=⟨h.c,h.f,h.lt⟩
theorem Cells.drewN {W:World} {g:Nat} {cs:List Value} (h:Cells W g cs) (n:Nat):Cells (W.drewN n) g cs:=⟨h.c,h.f,h.lt⟩
theorem Cells.grown {W W':World} {g:Nat} {cs:List Value} {row:Option Nat} (h:Cells W g cs) (hg:W.grownBy W' row) (hne:row≠some g):Cells W' g cs:=
 ⟨fun j u hu=>cell_grown hg (h.c j u hu) hne,fun j=>(World.frozen?_of_block (hg.block g h.lt (Ne.symm hne))).trans (h.f j),Nat.lt_of_lt_of_le h.lt hg.size⟩
theorem Cells.put {W:World} {g:Nat} {ds:List Value} (h:Cells W g ds) (cs:List Value) (hl:cs.length=ds.length):Cells (putAt W g 0 cs) g cs∧W.grownBy (putAt W g 0 cs) (some g):=by
 have hg:=grownBy_putAt cs W g 0
 have ha:=put_at cs (w:=W) (g:=g) (off:=0) fun j hj=>⟨_,by rw[Nat.zero_add];exact h.c j _ (List.getElem?_eq_getElem (by omega))⟩
 refine⟨⟨fun j u hu=>by have:=ha j u hu;rwa[Nat.zero_add] at this,fun j=> ?_,Nat.lt_of_lt_of_le h.lt hg.size⟩,hg⟩
 have:∀(us:List Value) (w:World) (off:Nat),(putAt w g off us).frozen? ⟨g,j,none⟩=w.frozen? ⟨g,j,none⟩:=by
  intro us
  induction us with
  |nil=>exact fun _ _=>rfl
  |cons u us ih=>intro w off;rw[putAt,ih,World.frozen?_setCell]
 rw[this]
 exact h.f j
theorem sl_one (w:World) (g:Nat) (x:Int) (t:TypeId) (hg:g=w.heap.size) (hx:Bd x):Sl intR (w.alloc (.cells #[.int .i64 x] t)) (.slice (some ⟨g,0,none⟩) 1 1) [x]:=by
 subst hg
 refine⟨_,1,rfl,Nat.le_refl _,by omega,.inr ⟨w.heap.size,0,rfl,by simp,fun i y hi=> ?_⟩⟩
 match i,hi with
 |0,hi=>
  simp at hi;subst hi
  exact⟨[.int .i64 x],⟨rfl,hx⟩,fun j u hu=>by
   match j,hu with
   |0,hu=>simp at hu;subst hu;simp[intR]⟩
theorem Own.lit {α:Type} {R:Rep α} {e B g n:Nat} {w:World} {cells:List Value} {xs:List α} (hg:g=w.heap.size) (hB:B≤w.heap.size) (hm:R.many (w.alloc (.cells cells.toArray e)) cells xs) (hn:n=xs.length) (hs:n≤1000000):
 Own R e B (w.alloc (.cells cells.toArray e)) (.slice (some ⟨g,0,none⟩) n n) xs:=by
 subst hg hn
 exact⟨cells,World.ownsRow_lit w cells.toArray _ hB (by simp only[maxLen];omega) (by simpa using R.many_len hm),hm⟩
theorem many_cons {α:Type} {R:Rep α} {w:World} {x:α} {xs:List α} {cs rest:List Value} (h:R.is w cs x) (h':R.many w rest xs):R.many w (cs++rest) (x::xs):=⟨cs,rest,rfl,h,h'⟩
end Go.Proofs.Ytlngbdggehghgaa
namespace Go.Proofs.Ytlngbdggehghgaa
open Go.RowKit
structure Gp where
 d:Nat
 os:Array Obj
instance:Nonempty Gp:=⟨⟨0,#[]⟩⟩
def gro (w:World) (p:Gp):World:={w with heap:=w.heap++p.os,drawn:=p.d}
theorem gro_below (w:World) (p:Gp):Below w.heap.size w (gro w p):=
 ⟨rfl,rfl,rfl,by simp[gro],fun k hk=>by simp[gro,Array.getElem?_append_left hk]⟩
theorem below_gro {w w':World} (h:Below w.heap.size w w'):∃p,w'=gro w p:=by
 refine⟨⟨w'.drawn,w'.heap.extract w.heap.size w'.heap.size⟩, ?_⟩
 have hh:w'.heap=w.heap++w'.heap.extract w.heap.size w'.heap.size:=by
  apply Array.ext_getElem?
  intro i
  rcases Nat.lt_or_ge i w.heap.size with hi|hi
  ·rw[h.block i hi,Array.getElem?_append_left hi]
  ·rw[Array.getElem?_append_right hi,Array.getElem?_extract]
   split
   ·congr 1;omega
   ·rename_i hn
    rw[Array.getElem?_eq_none]
    have:=h.size
    omega
 cases w'
 cases w
 simp only[gro]
 have h1:=h.os
 have h2:=h.tape
 have h3:=h.output
 simp only at h1 h2 h3 hh
 subst h1 h2 h3
 rw[←hh]
theorem gro_cell {w:World} {a:Addr} {v:Value} (h:w.cell? a=some v) (p:Gp):(gro w p).cell? a=some v:=cell_later (gro_below w p) h
theorem Calls.gro_of {P:Program} {f:FuncId} {args:Array Value} {w:World} {p:Gp} {v:Value}
 (h:Calls P f args (gro w p) fun e w'=>e=.returned v∧Below (gro w p).heap.size (gro w p) w'):Calls P f args (gro w p) fun e w''=>e=.returned v∧∃p',w''=gro w p':=
 h.mono fun _ _ ⟨he,hb⟩=>⟨he,below_gro ((gro_below w p).trans (hb.mono (gro_below w p).size))⟩
theorem wp_region_gro {P:Program} {id:Nat} {Q:Exit→Act→World→Prop} {a:Act} {w:World} {l:List Oper} (hm:P.follows .mixedOrders=true) (hB:Region.lexB .any l.toArray=true)
 (h:wpQuiet P l.toArray (fun w'=> ∃p,w'=gro w p) (fun a'=> ∀w',(∃p,w'=gro w p)→Q .normal a' w') l a):(Code.region id l.toArray true).wp P Q a w:=
 wp_region_quiet (C:=fun w'=> ∃p,w'=gro w p) hm hB ⟨⟨w.drawn+1,#[]⟩,by simp[gro]⟩ (by simpa using h)
theorem gro_end {w:World} {T:World→Prop} (h:∀W,Below w.heap.size w W→T W):∀w',(∃p,w'=gro w p)→T w':=by
 rintro _ ⟨p,rfl⟩
 exact h _ (gro_below w p)
end Go.Proofs.Ytlngbdggehghgaa
namespace Go.Proofs.Ytlngbdggehghgaa
open Go.RowKit
theorem bal {a w:World} {o:Obj} (h:Below a.heap.size a w):Below a.heap.size a (w.alloc o):=h.alloc h.size o
end Go.Proofs.Ytlngbdggehghgaa
namespace Go.Proofs.Ytlngbdggehghgaa
open Go
section
variable {P:Program} {ops:Array Oper} {md:Region.Mode} {w:World}
end
end Go.Proofs.Ytlngbdggehghgaa
namespace Go.Proofs.Ytlngbdggehghgaa
open Go
section
variable {P:Program} {ops:Array Oper} {md:Region.Mode} {C:World→Prop}
end
end Go.Proofs.Ytlngbdggehghgaa
namespace Go.Proofs.Ytlngbdggehghgaa
open Go
section
variable {P:Program} {ops:Array Oper} {md:Region.Mode} {C:World→Prop}
end
end Go.Proofs.Ytlngbdggehghgaa
namespace Go.Proofs.Ytlngbdggehghgaa
open Go.RowKit
variable {P:Program} {C:World→Prop} {l n:Nat} {ops:Array Oper} {md:Region.Mode}
end Go.Proofs.Ytlngbdggehghgaa
namespace Go.Proofs.Ytlngbdggehghgaa
open Go.RowKit
section
variable {P:Program} {ops:Array Oper} {Q:Exit→Act→World→Prop} {md:Region.Mode} {w:World}
end
end Go.Proofs.Ytlngbdggehghgaa
namespace Go.Proofs.Ytlngbdggehghgaa
open Go.RowKit
section
variable {P:Program} {ops:Array Oper} {Q:Exit→Act→World→Prop}
def midQ (Q:Exit→Act→World→Prop) (M:Act→World→Prop):Exit→Act→World→Prop
 | .normal,a,w=>M a w
 |e,a,w=>Q e a w
theorem wpOp_mid {M:Act→World→Prop} {i:Nat} {K:Act→World→Prop} {a:Act} {w:World} (h:wpOp P ops (midQ Q M) i K a w):wpOp P ops Q i K a w:=by
 unfold wpOp at h⊢
 split
 ·rename_i h0;simpa[h0] using h
 ·rename_i o h0
  simp only[h0] at h
  split
  ·rename_i hw
   simp only[hw,if_true] at h
   refine h.imp (fun h=> ?_) id
   unfold Oper.wp at h⊢
   generalize(execOp a.eval o).run P w=r at h
   cases r with
   |ok n w'=>
    cases n<;>simp only[Oper.upon] at h⊢ <;>
     first
      |exact h
      |exact Calls.mono h (fun e w'' he=>by cases e<;>exact he)
   |halt x w'=>cases x<;>simp only[Oper.upon] at h⊢ <;>exact h
  ·rename_i hw
   simp only[hw] at h
   exact h
end
end Go.Proofs.Ytlngbdggehghgaa
namespace Go.Proofs.Ytlngbdggehghgaa
open Go.RowKit Go.ChangeShapes Go.WideShapes Go.ChangeAt
def rowed (P:Program) (ts:List TypeId):Bool:=ts.all fun t=>P.readableRec t&&decide (t<P.types.size)
section
variable {H:Type} {enc:TypeId×Value→H} {P:Program}
theorem trodAll_below (hl:laidOutB P=true) {W W':World} {sp:Nat→Bool} (hb:Below W.heap.size W W'):
 ∀{ts:List TypeId} {vs:List Value} {ds:List (DataW H)} {ps:List MemPlace},rowed P ts=true→DataW.TrodAll enc P W 0 (fun _=>true) true ts vs ds ps→
  (∀x∈ps,x.block<W.heap.size)→(∀x∈ps,sp x.block=true)→DataW.TrodAll enc P W' 0 sp true ts vs ds ps
 |[],[],[],_,_,h,_,_=>h
 |t::ts,v::vs,d::ds,ps,hr,⟨p,q,h1,h2,e⟩,hlt,hsp=>by
  subst e
  simp only[rowed,List.all_cons,Bool.and_eq_true,decide_eq_true_eq] at hr
  exact⟨p,q,Go.WideElems.Trod_stays hl hr.1.1 hr.1.2 h1 (fun x hx=>hb.same (hlt x (by simp[hx]))) (fun x hx=>hsp x (by simp[hx])),
   trodAll_below hl hb hr.2 h2 (fun x hx=>hlt x (by simp[hx])) (fun x hx=>hsp x (by simp[hx])),rfl⟩
 |[],_::_,_,_,_,h,_,_=>h.elim
 |[],[],_::_,_,_,h,_,_=>h.elim
 |_::_,[],_,_,_,h,_,_=>h.elim
 |_::_,_::_,[],_,_,h,_,_=>h.elim
theorem law_post {f:Func} {s:ChangeSpec} {apart:Bool} {W W':World} {args:Array Value} {ds gs:List (DataW H)} {before:List MemPlace} {tb:TypeId} (hl:laidOutB P=true)
 (hr:rowed P f.params.toList=true) (hres:f.resultTypes=#[tb]) (hub:P.underlying tb=some .bool) (hv:s.vars=[]) (hfn:s.fn H ds={results:=[.lit (.bool true)],args:=ds})
 (hW:DataW.Whole enc P f.params.toList s.vars apart W args.toList ds gs before) (hb:Below W.heap.size W W'):s.post enc P f apart true false false W args (.bool true) W':=by
 have hlt:∀p∈before,p.block<W.heap.size:=fun p hp=>hW.lt p hp
 have hW':=hW
 obtain⟨p,q,hA,hV,rfl,_,_⟩:=hW'
 rw[hv] at hV
 obtain⟨rfl,rfl⟩:=trodVars_none hV
 refine⟨ds,[],p++[],[],p,[],hW, ?_, ?_, ?_, ?_,fun h=>by cases h⟩
 ·rw[hres,List.append_nil,hfn]
  exact trodAll_mk1 (shut_bool hub _)
 ·rw[List.append_nil,hfn]
  exact trodAll_below hl hb hr hA (fun x hx=>hlt x (by simpa using hx)) (fun x hx=>by simpa using hlt x (by simpa using hx))
 ·rw[List.append_nil,hfn,hv]
  rfl
 ·exact hb.frame _
theorem cell_plain {W:World} {a:Addr} {v:Value} (h:W.cell? a=some v):a.spot=none∧a.block<W.heap.size:=by
 unfold World.cell? at h
 split at h
 ·rename_i c _ _ hc
  refine⟨?_,(Array.getElem?_eq_some_iff.1 hc).1⟩
  split at h
  ·cases h
  ·rename_i hs;simpa using hs
 ·cases h
theorem sl_in {α:Type} (R:Rep α) {W:World} {t e:TypeId} {n:Nat} {v:Value} {y:DataW H×List MemPlace} (ht:P.underlying t=some (.slice e)) (hsz:P.cellsOf e=R.size) (hpos:0<R.size)
 (helem:∀n cs y,cs.length=R.size→DataW.trod enc P W 0 (fun _=>true) true n e cs=some y→∃x,R.is W cs x)
 (h:DataW.trod enc P W 0 (fun _=>true) true n t [v]=some y):∃xs,Sl R W v xs:=by
 rcases Go.Deep.open_slice ht h with⟨hcs,_⟩|⟨a,len,cap,m,n',D,Pl,hcs,_,hl,hm,hmm,_,hi⟩
 ·injection hcs with hcs
  subst hcs
  exact⟨[],Sl.none R W⟩
 ·injection hcs with hcs
  subst hcs
  simp only[if_true] at hmm
  subst hmm
  have hm':m≤9223372036854775807:=hm
  by_cases h0:m=0
  ·have hl0:len=0:=by omega
   subst h0 hl0
   exact⟨[],some a,0,rfl,Nat.le_refl _,by omega,.inl ⟨rfl,rfl⟩⟩
  obtain⟨cs0,hc0,_⟩:=hi 0 (by omega)
  obtain⟨_,hl0,hat0⟩:=World.cells?_some hc0
  have h1:=hat0 0 (by omega)
  rw[List.getElem?_eq_getElem (show 0<cs0.length by omega)] at h1
  have ha0:(a.add (0*P.cellsOf e)).add 0=a:=by simp[Addr.add]
  rw[ha0] at h1
  obtain⟨hspot,hb⟩:=cell_plain h1
  obtain⟨b,off,spot⟩:=a
  simp only at hspot hb
  subst hspot
  clear h1 ha0 hat0 hl0 hc0
  have hx:∀i:Fin len,∃x cs,R.is W cs x∧At W b (off+i.val*R.size) cs:=fun i=>by
   obtain⟨cs,hc,htr⟩:=hi i.val (by omega)
   obtain⟨_,hlen,hat⟩:=World.cells?_some hc
   obtain⟨x,hx⟩:=helem _ _ _ (by omega) htr
   refine⟨x,cs,hx,fun j u hu=> ?_⟩
   have hj:j<P.cellsOf e:=by
    rcases Nat.lt_or_ge j cs.length with h|h
    ·omega
    ·rw[List.getElem?_eq_none h] at hu;cases hu
   have h1:=hat j hj
   rw[hu,hsz,Go.Deep.add_add] at h1
   rw[←h1]
   simp only[Addr.add]
   split
   ·rename_i h0
    rw[show off+i.val*R.size+j=off by omega]
   ·rw[Nat.add_assoc]
  refine⟨List.ofFn fun i=>Classical.choose (hx i),some ⟨b,off,none⟩,m,by simp,by simpa using hl,hm',.inr ⟨b,off,rfl,hb,fun i x he=> ?_⟩⟩
  have hil:i<len:=by
   rcases Nat.lt_or_ge i len with h|h
   ·exact h
   ·rw[List.getElem?_eq_none (by simpa using h)] at he;cases he
  rw[List.getElem?_ofFn,dif_pos hil] at he
  injection he with he
  subst he
  exact Classical.choose_spec (hx ⟨i,hil⟩)
theorem trod_field {W:World} {t:TypeId} {fs:Array Field} {n:Nat} {cs:List Value} {y:DataW H×List MemPlace} (ht:P.underlying t=some (.struct fs)) (h:DataW.trod enc P W 0 (fun _=>true) true n t cs=some y) (i:Nat) {f:Field} (hf:fs[i]?=some f):
 ∃m z,DataW.trod enc P W 0 (fun _=>true) true m f.type ((cs.drop f.offset).take (P.cellsOf f.type))=some z:=by
 obtain⟨xs,m,_,_,_,hlen,hx⟩:=DataW.trod_struct ht h
 have h1:=hx i f hf
 have hi:i<xs.length:=by rw[hlen];exact(Array.getElem?_eq_some_iff.1 hf).1
 rw[List.getElem?_eq_getElem hi] at h1
 exact⟨m,_,h1⟩
end
end Go.Proofs.Ytlngbdggehghgaa
namespace Go.Proofs.Ytlngbdggehghgaa
end Go.Proofs.Ytlngbdggehghgaa
