/-
  No statement is proved here: words for memory that the other texts of this seat use: what a slice, a row of cells, a struct reads as, and that it still reads so in every later world. Conditions: none.
  No statement is proved here: words for memory, second part: a store of one element into a slice of the call's own, clear. Conditions: none.
  No statement is proved here: words for memory, third part: a block whose cells are known (a boxed struct); small lists. Conditions: none.
  No statement is proved here: a region that draws its order, reads, and calls what makes memory and leaves the old memory alone: one walk in the order of the text. Conditions: none.
  No statement is proved here: a slice still reads as it did behind a store into a cell that is none of its own. Conditions: none.
  No statement is proved here: a region that draws its order: first operations that only read, in whatever order, then the rest, which is walked in the order of the text: each of the rest is the only one that may come up, or a part of a tuple. Conditions: none.
  No statement is proved here: a region that draws its order: first operations that read, or call what makes memory and leaves the old memory alone, in whatever order; then the rest, which is walked in the order of the text. Conditions: none.
  No statement is proved here: a region that draws its order and ends in a store: all else reads, or calls what leaves the old memory alone; a part of a tuple may come behind the store. Conditions: none.
  No statement is proved here: a region that draws its order within a round of a range over a function: it reads, and calls what makes memory and leaves the old memory alone: one walk in the order of the text. Conditions: none.
  No statement is proved here: a drawn region whose first operations come up in one order and whose rest only reads. Conditions: as each theorem says.
  No statement is proved here: a drawn region, walked in parts: operations that come up in one order; two that come up in either order; a rest that only reads. Conditions: as each theorem says.
  No statement is proved here: the last step of each law's row, once for all laws: what is read of the arguments before the call is read after it, where nothing old has turned; and slices among the arguments, opened. Conditions: none.
  Plain law: lists of numbers in the order of their keys, and of themselves where the keys are equal: such a list is one alone; how two of them are merged. Conditions: as each theorem says.
-/
import Derived.WalkKit
import Derived.WalkSpells
import Derived.WalkLawsBesides
import Derived.Deep.QuietTactic
import Derived.BigQuiet
import Derived.Lib.Hide
import Derived.StillTailTactics
import Derived.Orders
import Derived.RangeFuncNested
import Derived.OrdersIn
import Derived.ProofKit
import Derived.Lib.SmallJoins
namespace Go.Proofs.YtlckmjiioohcmaaGreatDoor
open Go.RowKit
structure Rep (α:Type) where
 size:Nat
 is:World→List Value→α→Prop
 len:∀{w cs x},is w cs x→cs.length=size
 one:∀{w cs x},is w cs x→∀u∈cs,u.oneCell'=true
 up:∀{w w' cs x},Below w.heap.size w w'→is w cs x→is w' cs x
def At (w:World) (b off:Nat) (cs:List Value):Prop:=∀j u,cs[j]?=some u→w.cell? ⟨b,off+j,none⟩=some u
theorem At.up {w w':World} {b off:Nat} {cs:List Value} (h:At w b off cs) (hb:Below w.heap.size w w'):At w' b off cs:=fun j u hu=>by
 have h1:=h j u hu
 exact(hb.cell (p:=⟨b,off+j,none⟩) (World.block_lt_of_cell? _ _ h1)).trans h1
theorem At.of {w w':World} {b off:Nat} {cs:List Value} (h:At w b off cs) (hk:∀j,w'.cell? ⟨b,j,none⟩=w.cell? ⟨b,j,none⟩):At w' b off cs:=fun j u hu=>
 (hk _).trans (h j u hu)
def Bd (x:Int):Prop:= -9223372036854775808≤x∧x≤9223372036854775807
def Sl {α:Type} (R:Rep α) (w:World) (v:Value) (xs:List α):Prop:=
 ∃A c,v=.slice A xs.length c∧xs.length≤c∧c≤9223372036854775807∧
  ((xs.length=0∧c=0)∨∃b off,A=some ⟨b,off,none⟩∧b<w.heap.size∧∀i x,xs[i]?=some x→∃cs,R.is w cs x∧At w b (off+i*R.size) cs)
theorem Sl.up {α:Type} {R:Rep α} {w w':World} {v:Value} {xs:List α} (h:Sl R w v xs) (hb:Below w.heap.size w w'):Sl R w' v xs:=by
 obtain⟨A,c,rfl,hc,hm,h⟩:=h
 refine⟨A,c,rfl,hc,hm, ?_⟩
 rcases h with h|⟨b,off,rfl,hlt,h⟩
 ·exact .inl h
 ·refine .inr ⟨b,off,rfl,Nat.lt_of_lt_of_le hlt hb.size,fun i x hi=> ?_⟩
  obtain⟨cs,h1,h2⟩:=h i x hi
  exact⟨cs,R.up hb h1,h2.up hb⟩
theorem Sl.none {α:Type} (R:Rep α) (w:World):Sl R w (.slice .none 0 0) []:=⟨.none,0,rfl,Nat.le_refl _,by omega,.inl ⟨rfl,rfl⟩⟩
theorem Sl.nil {α:Type} {R:Rep α} {w:World} {A:Option Addr} {n c:Nat} {xs:List α} (h:Sl R w (.slice A n c) xs):n=xs.length:=by
 obtain⟨A',c',he,_⟩:=h
 injection he
theorem Sl.open {α:Type} {R:Rep α} {w:World} {v:Value} {xs:List α} (h:Sl R w v xs):∃A c,v=.slice A xs.length c∧xs.length≤c∧c≤9223372036854775807∧Sl R w (.slice A xs.length c) xs:=by
 have h':=h
 obtain⟨A,c,rfl,hc,hm,_⟩:=h
 exact⟨A,c,rfl,hc,hm,h'⟩
theorem Sl.at_ {α:Type} {R:Rep α} {w:World} {A:Option Addr} {n c k:Nat} {xs:List α} (h:Sl R w (.slice A n c) xs) (hk:k<xs.length):
 ∃b off cs,A=some ⟨b,off,.none⟩∧b<w.heap.size∧R.is w cs xs[k]∧At w b (off+k*R.size) cs:=by
 obtain⟨A',c',he,hc,hm,h⟩:=h
 injection he with e1 e2 e3
 subst e1 e3
 rcases h with⟨_,h0⟩|⟨b,off,rfl,hlt,h⟩
 ·omega
 ·obtain⟨cs,h1,h2⟩:=h k xs[k] (List.getElem?_eq_getElem hk)
  exact⟨b,off,cs,rfl,hlt,h1,h2⟩
def intR:Rep Int where
 size:=1
 is _ cs x:=cs=[.int .i64 x]∧Bd x
 len h:=by rw[h.1];rfl
 one h:=by rw[h.1];simp[Value.oneCell']
 up _ h:=h
theorem Sl.atI {w:World} {A:Option Addr} {n c k:Nat} {xs:List Int} (h:Sl intR w (.slice A n c) xs) (hk:k<xs.length):
 ∃b off,A=some ⟨b,off,.none⟩∧b<w.heap.size∧w.cell? ⟨b,off+k,.none⟩=some (.int .i64 xs[k])∧Bd xs[k]:=by
 obtain⟨b,off,cs,rfl,hb,⟨rfl,hx⟩,h2⟩:=h.at_ hk
 have h3:=h2 0 _ rfl
 simp only[intR,Nat.mul_one,Nat.add_zero] at h3
 exact⟨b,off,rfl,hb,h3,hx⟩
def Rep.many {α:Type} (R:Rep α) (w:World):List Value→List α→Prop
 |cells,[]=>cells=[]
 |cells,x::xs=> ∃cs rest,cells=cs++rest∧R.is w cs x∧R.many w rest xs
theorem Rep.many_len {α:Type} {R:Rep α} {w:World}:∀{xs:List α} {cells:List Value},R.many w cells xs→cells.length=xs.length*R.size
 |[],cells,h=>by simp only[Rep.many] at h;subst h;simp
 |x::xs,cells,h=>by
  obtain⟨cs,rest,rfl,h1,h2⟩:=h
  have e:=Rep.many_len h2
  have e1:=R.len h1
  rw[List.length_append,e,e1,List.length_cons,Nat.add_mul,Nat.one_mul,Nat.add_comm]
theorem Rep.many_up {α:Type} {R:Rep α} {w w':World} (hb:Below w.heap.size w w'):∀{xs:List α} {cells:List Value},R.many w cells xs→R.many w' cells xs
 |[],_,h=>h
 |_::_,_,⟨cs,rest,e,h1,h2⟩=>⟨cs,rest,e,R.up hb h1,Rep.many_up hb h2⟩
theorem Rep.many_append {α:Type} {R:Rep α} {w:World}:∀{xs ys:List α} {cells more:List Value},R.many w cells xs→R.many w more ys→R.many w (cells++more) (xs++ys)
 |[],ys,cells,more,h,h'=>by simp only[Rep.many] at h;subst h;simpa using h'
 |x::xs,ys,_,more,⟨cs,rest,e,h1,h2⟩,h'=>⟨cs,rest++more,by rw[e,List.append_assoc],h1,Rep.many_append h2 h'⟩
theorem Rep.many_one {α:Type} {R:Rep α} {w:World} {x:α} {cs:List Value} (h:R.is w cs x):R.many w cs [x]:=⟨cs,[],by simp,h,rfl⟩
theorem Rep.many_at {α:Type} {R:Rep α} {w:World}:∀{xs:List α} {cells:List Value} {i:Nat} {x:α},R.many w cells xs→xs[i]?=some x→
 ∃cs,R.is w cs x∧∀j u,cs[j]?=some u→cells[i*R.size+j]?=some u
 |[],_,i,x,_,hi=>by simp at hi
 |y::xs,_,0,x,⟨cs,rest,e,h1,h2⟩,hi=>by
  simp at hi;subst hi;subst e
  refine⟨cs,h1,fun j u hu=> ?_⟩
  have hj:j<cs.length:=by
   rcases Nat.lt_or_ge j cs.length with h|h
   ·exact h
   ·rw[List.getElem?_eq_none h] at hu;cases hu
  rw[Nat.zero_mul,Nat.zero_add,List.getElem?_append_left hj]
  exact hu
 |y::xs,_,i+1,x,⟨cs,rest,e,h1,h2⟩,hi=>by
  simp at hi;subst e
  obtain⟨ds,h3,h4⟩:=Rep.many_at h2 hi
  refine⟨ds,h3,fun j u hu=> ?_⟩
  have e1:=R.len h1
  have e2:(i+1)*R.size+j=cs.length+(i*R.size+j):=by rw[Nat.add_mul,e1];omega
  rw[e2,List.getElem?_append_right (by omega),Nat.add_sub_cancel_left]
  exact h4 j u hu
theorem many_ints {w:World}:∀{xs:List Int},(∀x,x∈xs→Bd x)→intR.many w (xs.map (Value.int .i64)) xs
 |[],_=>rfl
 |x::xs,h=>⟨[.int .i64 x],xs.map (Value.int .i64),rfl,⟨rfl,h x (by simp)⟩,many_ints fun y hy=>h y (by simp[hy])⟩
theorem ints_of_many {w:World}:∀{xs:List Int} {cells:List Value},intR.many w cells xs→cells=xs.map (Value.int .i64)∧∀x,x∈xs→Bd x
 |[],_,h=>⟨h,by simp⟩
 |x::xs,_,⟨cs,rest,e,⟨h1,hx⟩,h2⟩=>by
  obtain⟨e2,hall⟩:=ints_of_many h2
  subst e2 h1 e
  exact⟨rfl,fun y hy=>by
   rcases List.mem_cons.1 hy with rfl|hy
   ·exact hx
   ·exact hall y hy⟩
def Own {α:Type} (R:Rep α) (e:TypeId) (B:Nat) (w:World) (v:Value) (xs:List α):Prop:=∃cells,w.ownsRow B e R.size v xs.length cells∧R.many w cells xs
theorem Own.nil {α:Type} (R:Rep α) (e:TypeId) (B:Nat) (w:World):Own R e B w (.slice .none 0 0) []:=⟨[],World.ownsRow_nil w B e R.size,rfl⟩
theorem Own.sl {α:Type} {R:Rep α} {e:TypeId} {B:Nat} {w:World} {v:Value} {xs:List α} (h:Own R e B w v xs):Sl R w v xs:=by
 obtain⟨cells,ho,hm⟩:=h
 have ho':=ho
 obtain⟨hl,h2⟩:=ho
 rcases h2 with⟨rfl,h0⟩|⟨g,cap,cur,rfl,_,hg,hnc,hcm,hcs,htake⟩
 ·have:xs=[]:=List.eq_nil_of_length_eq_zero h0
  subst this
  exact Sl.none R w
 ·refine⟨some ⟨g,0,.none⟩,cap,rfl,hnc,by simp only[maxLen] at hcm;omega,.inr ⟨g,0,rfl,(Array.getElem?_eq_some_iff.1 hg).1,fun i x hi=> ?_⟩⟩
  obtain⟨cs,h3,h4⟩:=R.many_at hm hi
  refine⟨cs,h3,fun j u hu=> ?_⟩
  have h5:=ho'.cells (g:=g) rfl _ u (h4 j u hu)
  have hadd:(⟨g,0,.none⟩:Addr).add (i*R.size+j)=⟨g,i*R.size+j,.none⟩:=by unfold Addr.add;split<;>simp_all
  rw[hadd] at h5
  rw[show 0+i*R.size+j=i*R.size+j from by omega]
  exact h5
theorem Own.up {α:Type} {R:Rep α} {e:TypeId} {B:Nat} {w w':World} {v:Value} {xs:List α} (h:Own R e B w v xs) (hb:Below w.heap.size w w'):Own R e B w' v xs:=by
 obtain⟨cells,ho,hm⟩:=h
 refine⟨cells,⟨ho.1, ?_⟩,R.many_up hb hm⟩
 rcases ho.2 with h2|⟨g,cap,cur,hv,hB,hg,r⟩
 ·exact .inl h2
 ·exact .inr ⟨g,cap,cur,hv,hB,(hb.block g (Array.getElem?_eq_some_iff.1 hg).1).trans hg,r⟩
theorem Own.mono {α:Type} {R:Rep α} {e:TypeId} {B B':Nat} {w:World} {v:Value} {xs:List α} (h:Own R e B w v xs) (hB:B'≤B):Own R e B' w v xs:=by
 obtain⟨cells,ho,hm⟩:=h
 refine⟨cells,⟨ho.1, ?_⟩,hm⟩
 rcases ho.2 with h2|⟨g,cap,cur,hv,hg,r⟩
 ·exact .inl h2
 ·exact .inr ⟨g,cap,cur,hv,Nat.le_trans hB hg,r⟩
def Rep.flat {α:Type} (R:Rep α):Prop:=∀w w' cs x,R.is w cs x→R.is w' cs x
theorem intR_flat:intR.flat:=fun _ _ _ _ h=>h
theorem Rep.many_flat {α:Type} {R:Rep α} (hf:R.flat) {w w':World}:∀{xs:List α} {cells:List Value},R.many w cells xs→R.many w' cells xs
 |[],_,h=>h
 |_::_,_,⟨cs,rest,e,h1,h2⟩=>⟨cs,rest,e,hf _ _ _ _ h1,Rep.many_flat hf h2⟩
theorem Rep.many_ones {α:Type} {R:Rep α} {w:World}:∀{xs:List α} {cells:List Value},R.many w cells xs→∀u∈cells,u.oneCell'=true
 |[],_,h=>by simp only[Rep.many] at h;subst h;simp
 |x::xs,_,⟨cs,rest,e,h1,h2⟩=>by
  subst e
  intro u hu
  rcases List.mem_append.1 hu with hu|hu
  ·exact R.one h1 u hu
  ·exact Rep.many_ones h2 u hu
theorem gather {α:Type} {R:Rep α} {w:World} {b off:Nat}:∀{xs:List α},(∀i x,xs[i]?=some x→∃cs,R.is w cs x∧At w b (off+i*R.size) cs)→∃cells,R.many w cells xs∧At w b off cells:=by
 intro xs
 induction xs generalizing off with
 |nil=>exact fun _=>⟨[],rfl,fun j u hu=>by simp at hu⟩
 |cons x xs ih=>
  intro h
  obtain⟨cs,h1,h2⟩:=h 0 x rfl
  obtain⟨cells,h3,h4⟩:=ih (off:=off+R.size) fun i y hi=>by
   obtain⟨ds,h5,h6⟩:=h (i+1) y (by simpa using hi)
   exact⟨ds,h5,by rw[show off+R.size+i*R.size=off+(i+1)*R.size from by rw[Nat.add_mul];omega];exact h6⟩
  refine⟨cs++cells,⟨cs,cells,rfl,h1,h3⟩,fun j u hu=> ?_⟩
  have hl:=R.len h1
  rcases Nat.lt_or_ge j cs.length with hj|hj
  ·rw[List.getElem?_append_left hj] at hu
   have:=h2 j u hu
   simpa using this
  ·rw[List.getElem?_append_right hj] at hu
   have:=h4 _ u hu
   rw[show off+R.size+(j-cs.length)=off+j from by omega] at this
   exact this
theorem addr_add (b o j:Nat):(⟨b,o,.none⟩:Addr).add j=⟨b,o+j,.none⟩:=by unfold Addr.add;split<;>simp_all
section
variable {P:Program} (w:World)
theorem run_append_of_nil (base:Nat) (t ty e:TypeId) (i:TypeInfo) (size:Nat) (ht:P.underlying t=some (.slice e)) (hi:P.info? e=some i)
 (v:Value) (n:Nat) (xs:List Value) (hown:w.ownsRow base e size v n xs) (c:Nat):(Builtin.append_ #[t,t] ty #[v,.slice none 0 c]).run P w=.ok v w:=by
 rcases hown.2 with⟨rfl,rfl⟩|⟨g,cap,cur,rfl,_,_,hnc,_⟩
 ·simp[Builtin.append_,run_underlying ht,sizeOf,typeInfo,hi,Builtin.lenOf,Builtin.firstCells]
 ·simp[Builtin.append_,run_underlying ht,sizeOf,typeInfo,hi,Builtin.lenOf,Builtin.firstCells,hnc,storeCells]
theorem run_append_sl {α:Type} (R:Rep α) (base:Nat) (t ty e:TypeId) (z:Value) (bytes:Nat) (ht:P.underlying t=some (.slice e))
 (hinfo:(P.info? e).map (fun i=>(i.zero,i.size,i.bytes))=some (some z,R.size,bytes)) (hzs:z.cells.size=R.size) (hsz:0<R.size)
 (v:Value) (xs:List α) (hown:Own R e base w v xs) (x:Value) (ys:List α) (hx:Sl R w x ys)
 (hbytes:(xs.length+ys.length)*bytes≤140737488355328) (hby:0<bytes) (hbase:base≤w.heap.size)
 (keep:∀w',w.grownBy w' v.ownBlock→∀cs y,R.is w cs y→R.is w' cs y):
 ∃v' w',(Builtin.append_ #[t,t] ty #[v,x]).run P w=.ok v' w'∧Own R e base w' v' (xs++ys)∧w.grownBy w' v.ownBlock∧(v'.ownBlock=v.ownBlock∨v'.ownBlock=some w.heap.size):=by
 obtain⟨i,hi,hz,hs,hb⟩:=info_parts hinfo
 obtain⟨cells,ho,hm⟩:=hown
 obtain⟨A,c,rfl,hc,hcm,hA⟩:=hx
 have keepm:∀w',w.grownBy w' v.ownBlock→∀{l:List α} {cl:List Value},R.many w cl l→R.many w' cl l:=by
  intro w' hg l
  induction l with
  |nil=>exact fun h=>h
  |cons y l ih=>exact fun⟨cs,rest,e,h1,h2⟩=>⟨cs,rest,e,keep w' hg cs y h1,ih h2⟩
 have h63:xs.length+ys.length≤maxLen:=by
  simp only[maxLen]
  have:=Nat.mul_le_mul_left (xs.length+ys.length) (show 1≤bytes from hby)
  omega
 rcases hA with⟨hn,h0⟩|⟨b,off,rfl,hlt,hcells⟩
 ·have hy:ys=[]:=List.eq_nil_of_length_eq_zero hn
  subst hy
  cases A with
  |none=>exact⟨v,w,run_append_of_nil w base t ty e i R.size ht hi v _ cells ho c,⟨cells,by simpa using ho,by simpa using hm⟩,World.grownBy.refl w _,.inl rfl⟩
  |some a0=>
   obtain⟨v',w',hrun,h2,h3,_,h5⟩:=run_append_own_at (P:=P) w base t ty e i z R.size bytes ht hi hz hs hb hzs hsz v _ cells ho a0 0 c [] (by simp)
    (fun j u hu=>by simp at hu) (fun u hu=>by simp at hu) (by simpa using h63) (by simpa using hbytes) hbase
   exact⟨v',w',hrun,⟨cells,by simpa using h2,by simpa using keepm w' h3 hm⟩,h3,h5⟩
 ·obtain⟨more,hm2,hat⟩:=gather hcells
  obtain⟨v',w',hrun,h2,h3,_,h5⟩:=run_append_own_at (P:=P) w base t ty e i z R.size bytes ht hi hz hs hb hzs hsz v _ cells ho ⟨b,off,.none⟩ ys.length c more (R.many_len hm2)
   (fun j u hu=>by rw[addr_add];exact hat j u hu) (R.many_ones hm2) h63 hbytes hbase
  exact⟨v',w',hrun,⟨cells++more,by rw[List.length_append];exact h2,R.many_append (keepm w' h3 hm) (keepm w' h3 hm2)⟩,h3,h5⟩
theorem wp_append_sl {α:Type} {o:Oper} {a:Act} {K:Act→World→Prop} {Q:Exit→Act→World→Prop} (s y:Operand) (t:TypeId)
 (ho:o.op=.call {callee:=.builtin .append,args:=#[s,y],argTypes:=#[t,t]})
 (R:Rep α) (base:Nat) (e:TypeId) (z:Value) (bytes:Nat) (ht:P.underlying t=some (.slice e))
 (hinfo:(P.info? e).map (fun i=>(i.zero,i.size,i.bytes))=some (some z,R.size,bytes)) (hzs:z.cells.size=R.size) (hsz:0<R.size)
 (v:Value) (xs:List α) (hs:a.eval s=v) (hown:Own R e base w v xs) (x:Value) (ys:List α) (he:a.eval y=x) (hx:Sl R w x ys)
 (hbytes:(xs.length+ys.length)*bytes≤140737488355328) (hby:0<bytes) (hbase:base≤w.heap.size)
 (keep:∀w',w.grownBy w' v.ownBlock→∀cs y,R.is w cs y→R.is w' cs y)
 (h:∀v' w',Own R e base w' v' (xs++ys)→w.grownBy w' v.ownBlock→(v'.ownBlock=v.ownBlock∨v'.ownBlock=some w.heap.size)→K (a.put o.dst v') w'):o.wp P a w K Q:=by
 obtain⟨v',w',hrun,h2,h3,h4⟩:=run_append_sl (P:=P) w R base t o.type e z bytes ht hinfo hzs hsz v xs hown x ys hx hbytes hby hbase keep
 unfold Oper.wp execOp
 simp only[ho,resolve,invoke,builtin,Sem.run_bind,Sem.run_pure,Result.andThen_ok,List.map_toArray,List.map_cons,List.map_nil,hs,he,hrun]
 exact h v' w' h2 h3 h4
theorem wpList_append_sl {α:Type} {ops:Array Oper} {rest:List Oper} {o:Oper} {a:Act} {Q:Exit→Act→World→Prop} (hgd:o.guard=none) (s y:Operand) (t:TypeId)
 (ho:o.op=.call {callee:=.builtin .append,args:=#[s,y],argTypes:=#[t,t]})
 (R:Rep α) (base:Nat) (e:TypeId) (z:Value) (bytes:Nat) (ht:P.underlying t=some (.slice e))
 (hinfo:(P.info? e).map (fun i=>(i.zero,i.size,i.bytes))=some (some z,R.size,bytes)) (hzs:z.cells.size=R.size) (hsz:0<R.size)
 (v:Value) (xs:List α) (hs:a.eval s=v) (hown:Own R e base w v xs) (x:Value) (ys:List α) (he:a.eval y=x) (hx:Sl R w x ys)
 (hbytes:(xs.length+ys.length)*bytes≤140737488355328) (hby:0<bytes) (hbase:base≤w.heap.size)
 (keep:∀w',w.grownBy w' v.ownBlock→∀cs y,R.is w cs y→R.is w' cs y)
 (h:∀v' w',Own R e base w' v' (xs++ys)→w.grownBy w' v.ownBlock→(v'.ownBlock=v.ownBlock∨v'.ownBlock=some w.heap.size)→wpList P ops Q rest (a.put o.dst v') w'):wpList P ops Q (o::rest) a w:=
 wpList_plain hgd fun _ hK=>wp_append_sl w s y t ho R base e z bytes ht hinfo hzs hsz v xs hs hown x ys he hx hbytes hby hbase keep fun v' w' h2 h3 h4=>hK _ _ (h v' w' h2 h3 h4)
end
theorem Own.form {α:Type} {R:Rep α} {e:TypeId} {B:Nat} {w:World} {v:Value} {xs:List α} (h:Own R e B w v xs):∃A c,v=.slice A xs.length c∧xs.length≤c∧c≤9223372036854775807∧Own R e B w (.slice A xs.length c) xs:=by
 have h':=h
 obtain⟨A,c,rfl,hc,hm,_⟩:=h.sl.open
 exact⟨A,c,rfl,hc,hm,h'⟩
theorem Own.lt {α:Type} {R:Rep α} {e:TypeId} {B:Nat} {w:World} {v:Value} {xs:List α} (h:Own R e B w v xs):∀k,v.ownBlock=some k→B≤k∧k<w.heap.size:=h.elim fun _ h=>h.1.lt
theorem Own.empty {α:Type} (R:Rep α) (e:TypeId) {B:Nat} (w:World) (hB:B≤w.heap.size):Own R e B (w.alloc (.cells #[] e)) (.slice (some ⟨w.heap.size,0,.none⟩) 0 0) []:=
 ⟨[],World.ownsRow_made w #[] 0 hB (by simp[maxLen]) (by simp),rfl⟩
theorem Sl.drop {α:Type} {R:Rep α} {w:World} {b off n c:Nat} {xs:List α} (h:Sl R w (.slice (some ⟨b,off,.none⟩) n c) xs) {k:Nat} (hk:k≤xs.length) {o' n' c':Nat} (ho:o'=off+k*R.size) (hn:n'=xs.length-k) (hc:c'=c-k):
 Sl R w (.slice (some ⟨b,o',.none⟩) n' c') (xs.drop k):=by
 subst ho hn hc
 obtain⟨A',d,he,h1,h2,h3⟩:=h
 injection he with e1 e2 e3
 subst e1 e2 e3
 refine⟨_,_,by rw[List.length_drop],by rw[List.length_drop];omega,by omega, ?_⟩
 rcases h3 with⟨h3,h4⟩|⟨b',off',he,hlt,hcells⟩
 ·exact .inl ⟨by rw[List.length_drop];omega,by omega⟩
 ·injection he with he
  injection he with he1 he2
  subst he1 he2
  refine .inr ⟨b,_,rfl,hlt,fun i x hi=> ?_⟩
  rw[List.getElem?_drop] at hi
  obtain⟨cs,h4,h5⟩:=hcells _ x hi
  exact⟨cs,h4,by rw[show off+k*R.size+i*R.size=off+(k+i)*R.size from by rw[Nat.add_mul];omega];exact h5⟩
theorem ret_int {k:IntKind} {a b:Int} (h:a=b):Ending.returned (.int k a)=.returned (.int k b):=by rw[h]
theorem ret_bool {a b:Bool} (h:a=b):Ending.returned (.bool a)=.returned (.bool b):=by rw[h]
theorem ba (w:World) (o:Obj):Below w.heap.size w (w.alloc o):=(Below.refl _ _).alloc (Nat.le_refl _) o
theorem bdN {B:Nat} {a w:World} (h:Below B a w) (n:Nat):Below B a (w.drewN n):=⟨h.os,h.tape,h.output,h.size,h.block⟩
theorem box_cell {w w1:World} {cs:Array Value} {t:TypeId} {z:Nat×Nat} (hb:Below (w.alloc (.cells cs t z)).heap.size (w.alloc (.cells cs t z)) w1) (i:Nat) (u:Value) (hu:cs[i]?=some u):w1.cell? ⟨w.heap.size,i,.none⟩=some u:=by
 rw[hb.cell (p:=⟨w.heap.size,i,.none⟩) (by simp)]
 exact(cell_of_row _ _ i cs t z (heap_alloc_new w _)).trans hu
theorem box_lt {w w1:World} {o:Obj} (hb:Below (w.alloc o).heap.size (w.alloc o) w1):w.heap.size<w1.heap.size:=by
 have:=hb.size;simp at this;omega
theorem free_later {w wx:World} {a:Addr} {v:Value} (hb:Below w.heap.size w wx) (h:w.cell? a=some v) (hf:w.frozen? a=false):wx.frozen? a=false:=
 (hb.frozen (World.block_lt_of_cell? _ _ h)).trans hf
end Go.Proofs.YtlckmjiioohcmaaGreatDoor
namespace Go.Proofs.YtlckmjiioohcmaaGreatDoor
open Go.RowKit
def putAt:World→Nat→Nat→List Value→World
 |w,_,_,[]=>w
 |w,g,off,u::us=>putAt (w.setCell ⟨g,off,none⟩ u) g (off+1) us
def setAll:List Value→Nat→List Value→List Value
 |l,_,[]=>l
 |l,off,u::us=>setAll (l.set off u) (off+1) us
theorem setAll_right:∀(us:List Value) (a b:List Value) (off:Nat),setAll (a++b) (a.length+off) us=a++setAll b off us
 |[],_,_,_=>rfl
 |u::us,a,b,off=>by
  simp only[setAll]
  rw[List.set_append_right _ _ (by omega),show a.length+off-a.length=off from by omega,show a.length+off+1=a.length+(off+1) from by omega]
  exact setAll_right us a _ _
theorem setAll_whole:∀(us pre old rest:List Value),us.length=old.length→setAll (pre++old++rest) pre.length us=pre++us++rest
 |[],pre,old,rest,h=>by
  have:old=[]:=List.eq_nil_of_length_eq_zero (by simpa using h.symm)
  subst this
  rfl
 |u::us,pre,o::old,rest,h=>by
  simp only[setAll]
  have h1:(pre++o::old++rest).set pre.length u=(pre++[u])++old++rest:=by
   rw[List.append_assoc,List.set_append_right _ _ (Nat.le_refl _),Nat.sub_self]
   simp
  rw[h1]
  have h2:=setAll_whole us (pre++[u]) old rest (by simpa using h)
  rw[List.length_append,List.length_singleton] at h2
  rw[h2]
  simp
 |_::_,_,[],_,h=>by simp at h
theorem Rep.many_set {α:Type} {R:Rep α} {w:World} {x:α} {cs:List Value} (hx:R.is w cs x):∀{ys:List α} {k:Nat} {cells:List Value},R.many w cells ys→k<ys.length→R.many w (setAll cells (k*R.size) cs) (ys.set k x)
 |[],k,_,_,hk=>by simp at hk
 |y::ys,0,_,⟨ds,rest,e,h1,h2⟩,_=>by
  subst e
  have h3:=setAll_whole cs [] ds rest (by rw[R.len hx,R.len h1])
  simp only[List.nil_append,List.length_nil] at h3
  rw[Nat.zero_mul,h3]
  exact⟨cs,rest,rfl,hx,h2⟩
 |y::ys,k+1,_,⟨ds,rest,e,h1,h2⟩,hk=>by
  subst e
  have h3:=Rep.many_set hx h2 (k:=k) (by simpa using hk)
  have e1:(k+1)*R.size=ds.length+k*R.size:=by rw[R.len h1,Nat.add_mul];omega
  rw[e1,setAll_right]
  exact⟨ds,_,rfl,h1,h3⟩
theorem grownBy_trans {a b c:World} {row:Option Nat} (h:a.grownBy b row) (k:b.grownBy c row):a.grownBy c row:=
 ⟨k.os.trans h.os,k.tape.trans h.tape,k.output.trans h.output,Nat.le_trans h.size k.size,fun i hi hne=>(k.block i (Nat.lt_of_lt_of_le hi h.size) hne).trans (h.block i hi hne)⟩
theorem owns_putAt {base e size g cap n:Nat}:∀(us:List Value) {w:World} {xs:List Value} (off:Nat),w.ownsRow base e size (.slice (some ⟨g,0,none⟩) n cap) n xs→
 (putAt w g off us).ownsRow base e size (.slice (some ⟨g,0,none⟩) n cap) n (setAll xs off us)∧w.grownBy (putAt w g off us) (some g)
 |[],w,_,_,h=>⟨h,World.grownBy.refl w _⟩
 |u::us,w,_,off,h=>by
  obtain⟨h1,h2⟩:=h.stored off u
  obtain⟨h3,h4⟩:=owns_putAt us (off+1) h1
  exact⟨h3,grownBy_trans h2 h4⟩
theorem Own.put {α:Type} {R:Rep α} {e B g cap n k:Nat} {w:World} {ys:List α} {x:α} {cs:List Value} (h:Own R e B w (.slice (some ⟨g,0,none⟩) n cap) ys) (hk:k<ys.length) (hx:R.is w cs x)
 (keep:∀w',w.grownBy w' (some g)→∀cs y,R.is w cs y→R.is w' cs y):
 Own R e B (putAt w g (k*R.size) cs) (.slice (some ⟨g,0,none⟩) n cap) (ys.set k x)∧w.grownBy (putAt w g (k*R.size) cs) (some g):=by
 obtain⟨cells,ho,hm⟩:=h
 have hn:n=ys.length:=by
  rcases ho.2 with⟨h',_⟩|⟨g',cap',cur,h',_⟩
  ·cases h'
  ·injection h'
 subst hn
 obtain⟨h1,h2⟩:=owns_putAt cs (k*R.size) ho
 refine⟨⟨_,by rw[List.length_set];exact h1, ?_⟩,h2⟩
 have h3:=R.many_set hx hm hk
 have keepm:∀{l:List α} {cl:List Value},R.many w cl l→R.many (putAt w g (k*R.size) cs) cl l:=by
  intro l
  induction l with
  |nil=>exact fun h=>h
  |cons y l ih=>exact fun⟨cs,rest,e,h1,h4⟩=>⟨cs,rest,e,keep _ h2 cs y h1,ih h4⟩
 exact keepm h3
theorem Own.cell_ {α:Type} {R:Rep α} {e B g cap n k:Nat} {w:World} {ys:List α} (h:Own R e B w (.slice (some ⟨g,0,none⟩) n cap) ys) (hk:k<ys.length):
 ∃cs,R.is w cs ys[k]∧(∀j u,cs[j]?=some u→w.cell? ⟨g,k*R.size+j,none⟩=some u)∧∀j,w.frozen? ⟨g,j,none⟩=false:=by
 obtain⟨b,off,cs,he,_,h1,h2⟩:=h.sl.at_ hk
 injection he with he
 injection he with e1 e2
 subst e1 e2
 obtain⟨cells,ho,hm⟩:=h
 have hn:n=ys.length:=by
  rcases ho.2 with⟨h',_⟩|⟨g',cap',cur,h',_⟩
  ·cases h'
  ·injection h'
 subst hn
 exact⟨cs,h1,fun j u hu=>by have:=h2 j u hu;rwa[Nat.zero_add] at this,fun j=>ho.frozenAt j⟩
theorem Own.block {α:Type} {R:Rep α} {e B g cap n:Nat} {w:World} {ys:List α} (h:Own R e B w (.slice (some ⟨g,0,none⟩) n cap) ys):B≤g∧g<w.heap.size∧n=ys.length:=by
 have h1:=h.lt g rfl
 obtain⟨cells,ho,hm⟩:=h
 refine⟨h1.1,h1.2, ?_⟩
 rcases ho.2 with⟨h',_⟩|⟨g',cap',cur,h',_⟩
 ·cases h'
 ·injection h'
theorem Rep.many_take {α:Type} {R:Rep α} {w:World}:∀{ys:List α} {cells:List Value} (i:Nat),R.many w cells ys→i≤ys.length→R.many w (cells.take (i*R.size)) (ys.take i)
 |_,_,0,_,_=>by simp only[Nat.zero_mul,List.take_zero];rfl
 |[],_,i+1,_,h=>by simp at h
 |y::ys,_,i+1,⟨ds,rest,e,h1,h2⟩,h=>by
  subst e
  have e1:(i+1)*R.size=ds.length+i*R.size:=by rw[R.len h1,Nat.add_mul];omega
  rw[e1,List.take_length_add_append,List.take_succ_cons]
  exact⟨ds,_,rfl,h1,Rep.many_take i h2 (by simpa using h)⟩
theorem Own.cut {α:Type} {R:Rep α} {e B g cap n i:Nat} {w:World} {ys:List α} (h:Own R e B w (.slice (some ⟨g,0,none⟩) n cap) ys) (hi:i≤ys.length):Own R e B w (.slice (some ⟨g,0,none⟩) i cap) (ys.take i):=by
 obtain⟨_,_,hn⟩:=h.block
 subst hn
 obtain⟨cells,ho,hm⟩:=h
 refine⟨cells.take (i*R.size), ?_,R.many_take i hm hi⟩
 have hl:(ys.take i).length=i:=by rw[List.length_take];omega
 rw[hl]
 have hle:i*R.size≤ys.length*R.size:=Nat.mul_le_mul_right _ hi
 refine⟨by rw[List.length_take,ho.1];omega, ?_⟩
 rcases ho.2 with⟨h',_⟩|⟨g',cap',cur,h',hB,hg,hnc,hcm,hcs,htake⟩
 ·cases h'
 ·injection h' with e1 e2 e3
  injection e1 with e1
  injection e1 with e1 _
  subst e1 e3
  refine .inr ⟨g,cap,cur,rfl,hB,hg,by omega,hcm,hcs, ?_⟩
  rw[←htake,List.take_take,Nat.min_eq_left hle]
theorem Own.setRow_cut {α:Type} {R:Rep α} {e B g cap n i:Nat} {w:World} {ys:List α} (h:Own R e B w (.slice (some ⟨g,0,none⟩) n cap) ys) (hi:i≤ys.length) (zs:List Value) (hz:zs.length=(n-i)*R.size) {P:Program}
 (h1:∀u∈zs,u.oneCell'=true) (keep:∀w',w.grownBy w' (some g)→∀cs y,R.is w cs y→R.is w' cs y):
 ∃w',(storeCells ⟨g,i*R.size,none⟩ zs).run P w=.ok () w'∧Own R e B w' (.slice (some ⟨g,0,none⟩) i cap) (ys.take i)∧w.grownBy w' (some g):=by
 obtain⟨cells,ho,hm⟩:=h.cut hi
 have hl:(ys.take i).length=i:=by rw[List.length_take];omega
 rw[hl] at ho
 obtain⟨_,_,hn⟩:=h.block
 obtain⟨hs,h2⟩:=ho
 have hnc':n≤cap:=by
  obtain⟨_,ho',_⟩:=h
  subst hn
  rcases ho'.2 with⟨h',_⟩|⟨g',cap',cur,h',_,_,hnc,_⟩
  ·cases h'
  ·injection h' with _ _ e3;subst e3;exact hnc
 rcases h2 with⟨h',_⟩|⟨g',cap',cur,h',hB,hg,hnc,hcm,hcs,htake⟩
 ·cases h'
 ·injection h' with e1 e2 e3
  injection e1 with e1
  injection e1 with e1 _
  subst e1 e3
  have hfit:i*R.size+zs.length≤cur.size:=by
   rw[hz,hcs,←Nat.add_mul]
   exact Nat.mul_le_mul_right _ (by omega)
  have hst:=run_storeCells_at P g (i*R.size) e zs 0 cur w hg (by simpa using hfit) h1
  simp only[Nat.add_zero] at hst
  have hgr:w.grownBy (w.setRow g (cur.toList.take (i*R.size)++zs++cur.toList.drop (i*R.size+zs.length)).toArray) (some g):=
   ⟨rfl,rfl,rfl,by simp,fun k _ hk=>setRow_other w g k _ (fun e=>hk (by rw[e]))⟩
  have keepm:∀{l:List α} {cl:List Value},R.many w cl l→R.many (w.setRow g (cur.toList.take (i*R.size)++zs++cur.toList.drop (i*R.size+zs.length)).toArray) cl l:=by
   intro l
   induction l with
   |nil=>exact fun h=>h
   |cons y l ih=>exact fun⟨cs,rest,e,h1,h4⟩=>⟨cs,rest,e,keep _ hgr cs y h1,ih h4⟩
  refine⟨_,hst,⟨cells,⟨by rw[hl];exact hs,.inr ⟨g,cap,_,by rw[hl],hB,setRow_heap w g cur _ e _ hg,by omega,hcm, ?_, ?_⟩⟩,keepm hm⟩,hgr⟩
  ·simp only[List.size_toArray,List.length_append,List.length_take,List.length_drop,Array.length_toList]
   omega
  ·rw[hl]
   have hle:i*R.size≤cur.toList.length:=by rw[Array.length_toList];omega
   rw[←htake,List.append_assoc,List.take_append_of_le_length (by rw[List.length_take];omega),List.take_take,Nat.min_self]
theorem run_clear_own {α:Type} {P:Program} {R:Rep α} {t e ty:TypeId} {z:Value} {B g cap n i:Nat} {w:World} {ys:List α} (ht:P.underlying t=some (.slice e)) (hv:∀w,(zeroValue e).run P w=.ok z w) (hzs:z.cells.size=R.size) (hone:∀u∈z.cells.toList,u.oneCell'=true)
 (h:Own R e B w (.slice (some ⟨g,0,none⟩) n cap) ys) (hi:i<ys.length) (keep:∀w',w.grownBy w' (some g)→∀cs y,R.is w cs y→R.is w' cs y) {o m c:Nat} (ho:o=i*R.size) (hm:m=n-i):
 ∃w',(Builtin.clear_ #[t] ty #[.slice (some ⟨g,o,none⟩) m c]).run P w=.ok (.tuple #[]) w'∧Own R e B w' (.slice (some ⟨g,0,none⟩) i cap) (ys.take i)∧w.grownBy w' (some g):=by
 subst ho hm
 obtain⟨_,_,hn⟩:=h.block
 have hlen:(Builtin.zeroCells z.cells (n-i)).toList.length=(n-i)*R.size:=by simp[Builtin.zeroCells,hzs]
 have h1:∀u∈(Builtin.zeroCells z.cells (n-i)).toList,u.oneCell'=true:=by
  intro u hu
  simp only[Builtin.zeroCells,Array.toList_map,List.mem_map,Array.toList_range,List.mem_range] at hu
  obtain⟨k,hk,rfl⟩:=hu
  have hpos:0<z.cells.size:=Nat.pos_of_ne_zero fun h0=>by rw[h0] at hk;simp at hk
  have hlt:=Nat.mod_lt k hpos
  rw[getElem!_pos z.cells _ hlt]
  exact hone _ (by simp)
 obtain⟨w',hst,h2,h3⟩:=h.setRow_cut (Nat.le_of_lt hi) _ hlen (P:=P) h1 keep
 refine⟨w', ?_,h2,h3⟩
 obtain⟨m,hm⟩:∃m,n-i=m+1:=⟨n-i-1,by omega⟩
 rw[hm] at hst⊢
 simp[Builtin.clear_,run_underlying ht,hv,hst]
theorem at_world {C:World→Prop} {w:World} (F:World→Prop) (hF:F w) (h:∀W,F W→C W):C w:=h w hF
theorem bdd {B:Nat} {a w:World} (h:Below B a w):Below B a w.drew:=h.drew
theorem cell_grown {w w':World} {row:Option Nat} {a:Addr} {v:Value} (hg:w.grownBy w' row) (h:w.cell? a=some v) (hne:row≠some a.block):w'.cell? a=some v:=
 hg.cell h (Ne.symm hne)
theorem free_grown {w w':World} {row:Option Nat} {a:Addr} {v:Value} (hg:w.grownBy w' row) (h:w.cell? a=some v) (hf:w.frozen? a=false) (hne:row≠some a.block):w'.frozen? a=false:=
 (World.frozen?_of_block (hg.block a.block (World.block_lt_of_cell? _ _ h) (Ne.symm hne))).trans hf
theorem below_grown {w w':World} {row:Option Nat} {B:Nat} (hg:w.grownBy w' row) (hB:B≤w.heap.size) (hr:∀k,row=some k→B≤k):Below B w w':=(Below.refl _ _).grown hg hB hr
theorem Own.kept {α:Type} {R:Rep α} {e:TypeId} {B:Nat} {w w':World} {v:Value} {xs:List α} {row:Option Nat} (h:Own R e B w v xs) (hg:w.grownBy w' row) (hne:∀k,v.ownBlock=some k→row≠some k) (keep:∀cs y,R.is w cs y→R.is w' cs y):Own R e B w' v xs:=by
 obtain⟨cells,ho,hm⟩:=h
 refine⟨cells,ho.kept hg ?_, ?_⟩
 ·cases hv:v.ownBlock with
  |none=>exact .inl rfl
  |some k=>exact .inr (fun e=>hne k hv e.symm)
 ·have keepm:∀{l:List α} {cl:List Value},R.many w cl l→R.many w' cl l:=by
   intro l
   induction l with
   |nil=>exact fun h=>h
   |cons y l ih=>exact fun⟨cs,rest,e,h1,h4⟩=>⟨cs,rest,e,keep cs y h1,ih h4⟩
  exact keepm hm
theorem Own.apart {α β:Type} {R:Rep α} {S:Rep β} {e f:TypeId} {B C:Nat} {w:World} {v u:Value} {xs:List α} {ys:List β} (h:Own R e B w v xs) (h':Own S f C w u ys) (hne:e≠f):∀k,v.ownBlock=some k→u.ownBlock≠some k:=by
 intro k hk hu
 obtain⟨_,ho,_⟩:=h
 obtain⟨_,ho',_⟩:=h'
 rcases ho.2 with⟨rfl,_⟩|⟨g,cap,cur,rfl,_,hg,_⟩
 ·cases hk
 ·rcases ho'.2 with⟨rfl,_⟩|⟨g',cap',cur',rfl,_,hg',_⟩
  ·cases hu
  ·cases hk;cases hu
   rw[hg] at hg'
   injection hg' with hg'
   injection hg' with _ ht
   exact hne ht
theorem Own.at_ {α:Type} {R:Rep α} {e B c n k:Nat} {A:Option Addr} {w:World} {ys:List α} (h:Own R e B w (.slice A n c) ys) (hk:k<ys.length):
 ∃g cs,A=some ⟨g,0,none⟩∧B≤g∧g<w.heap.size∧R.is w cs ys[k]∧(∀j u,cs[j]?=some u→w.cell? ⟨g,k*R.size+j,none⟩=some u)∧∀j,w.frozen? ⟨g,j,none⟩=false:=by
 obtain⟨b,off,cs,rfl,_⟩:=h.sl.at_ hk
 have h0:off=0∧True:=by
  obtain⟨_,ho,_⟩:=h
  rcases ho.2 with⟨h',_⟩|⟨g',_,_,h',_⟩
  ·cases h'
  ·injection h' with h';injection h' with h';injection h' with _ h';exact⟨h',trivial⟩
 obtain⟨rfl,_⟩:=h0
 obtain⟨cs,h1,h2,h3⟩:=h.cell_ hk
 exact⟨b,cs,rfl,h.block.1,h.block.2.1,h1,h2,h3⟩
theorem Own.atI {e B c n k:Nat} {A:Option Addr} {w:World} {ys:List Int} (h:Own intR e B w (.slice A n c) ys) (hk:k<ys.length):
 ∃g,A=some ⟨g,0,none⟩∧B≤g∧g<w.heap.size∧w.cell? ⟨g,k,none⟩=some (.int .i64 ys[k])∧w.frozen? ⟨g,k,none⟩=false∧Bd ys[k]:=by
 obtain⟨g,cs,rfl,h1,h2,⟨rfl,hb⟩,h3,h4⟩:=h.at_ hk
 have h5:=h3 0 _ rfl
 simp only[intR,Nat.mul_one,Nat.add_zero] at h5
 exact⟨g,rfl,h1,h2,h5,h4 k,hb⟩
theorem grownBy_set (w:World) (g j:Nat) (u:Value):w.grownBy (w.setCell ⟨g,j,none⟩ u) (some g):=
 ⟨rfl,rfl,rfl,by simp,fun k _ hk=>Below.heap_setCell _ _ _ _ (fun e=>hk (by rw[e]))⟩
theorem grownBy_putAt:∀(us:List Value) (w:World) (g off:Nat),w.grownBy (putAt w g off us) (some g)
 |[],w,_,_=>World.grownBy.refl w _
 |u::us,w,g,off=>grownBy_trans (grownBy_set w g off u) (grownBy_putAt us _ g _)
theorem putAt_other:∀(us:List Value) (w:World) (g off j:Nat),j<off→(putAt w g off us).cell? ⟨g,j,none⟩=w.cell? ⟨g,j,none⟩
 |[],_,_,_,_,_=>rfl
 |u::us,w,g,off,j,h=>by
  rw[putAt,putAt_other us _ g (off+1) j (by omega)]
  exact World.cell?_setCell_other w _ _ u (fun e=>by injection e;omega)
theorem put_at:∀(us:List Value) {w:World} {g off:Nat},(∀j,j<us.length→∃u,w.cell? ⟨g,off+j,none⟩=some u)→At (putAt w g off us) g off us
 |[],_,_,_,_=>fun j u hu=>by simp at hu
 |u::us,w,g,off,h=>fun j v hv=>by
  have h0:∀j,j<us.length→∃v,(w.setCell ⟨g,off,none⟩ u).cell? ⟨g,off+1+j,none⟩=some v:=fun j hj=>by
   obtain⟨v,hv⟩:=h (j+1) (by simpa using hj)
   refine⟨v, ?_⟩
   rw[World.cell?_setCell_other w _ _ u (fun e=>by injection e;omega),show off+1+j=off+(j+1) from by omega]
   exact hv
  have ih:=put_at us h0
  cases j with
  |zero=>
   simp at hv
   subst hv
   obtain⟨v,hv⟩:=h 0 (by simp)
   show(putAt (w.setCell ⟨g,off,none⟩ u) g (off+1) us).cell? ⟨g,off,none⟩=_
   rw[putAt_other us _ g _ off (by omega)]
   exact World.cell?_setCell_same w _ u (by simpa using hv)
  |succ j=>
   have:=ih j v (by simpa using hv)
   rw[show off+1+j=off+(j+1) from by omega] at this
   exact this
theorem Own.putI {e B g cap n k:Nat} {w:World} {ys:List Int} {x:Int} (h:Own intR e B w (.slice (some ⟨g,0,none⟩) n cap) ys) (hk:k<ys.length) (hx:Bd x):
 Own intR e B (w.setCell ⟨g,k,none⟩ (.int .i64 x)) (.slice (some ⟨g,0,none⟩) n cap) (ys.set k x)∧w.grownBy (w.setCell ⟨g,k,none⟩ (.int .i64 x)) (some g):=by
 have h1:=h.put hk (x:=x) (cs:=[.int .i64 x]) ⟨rfl,hx⟩ (fun _ _ _ _ h=>h)
 have e:putAt w g (k*intR.size) [.int .i64 x]=w.setCell ⟨g,k,none⟩ (.int .i64 x):=by simp[putAt,intR]
 rw[e] at h1
 exact h1
end Go.Proofs.YtlckmjiioohcmaaGreatDoor
namespace Go.Proofs.YtlckmjiioohcmaaGreatDoor
open Go.RowKit
structure Cells (W:World) (g:Nat) (cs:List Value):Prop where
 c:∀j u,cs[j]?=some u→W.cell? ⟨g,j,none⟩=some u
 f:∀j,W.frozen? ⟨g,j,none⟩=false
 lt:g<W.heap.size
theorem Cells.new (w:World) (cs:List Value) (t:TypeId):Cells (w.alloc (.cells cs.toArray t)) w.heap.size cs:=
 ⟨fun j u hu=>by rw[World.cell?_alloc_new];simpa using hu,fun j=>by simp,by simp⟩
theorem Cells.later {W W':World} {g:Nat} {cs:List Value} (h:Cells W g cs) (hb:Below W.heap.size W W'):Cells W' g cs:=
 ⟨fun j u hu=>cell_later hb (h.c j u hu),fun j=>(hb.frozen (p:=⟨g,j,none⟩) h.lt).trans (h.f j),Nat.lt_of_lt_of_le h.lt hb.size⟩
theorem Cells.alloc {W:World} {g:Nat} {cs:List Value} (h:Cells W g cs) (o:Obj):Cells (W.alloc o) g cs:=h.later (ba _ _)
theorem Cells.drew {W:World} {g:Nat} {cs:List Value} (h:Cells W g cs):Cells W.drew g cs:=⟨h.c,h.f,h.lt⟩
theorem Cells.drewN {W:World} {g:Nat} {cs:List Value} (h:Cells W g cs) (n:Nat):Cells (W.drewN n) g cs:=⟨h.c,h.f,h.lt⟩
theorem Cells.grown {W W':World} {g:Nat} {cs:List Value} {row:Option Nat} (h:Cells W g cs) (hg:W.grownBy W' row) (hne:row≠some g):Cells W' g cs:=
 ⟨fun j u hu=>cell_grown hg (h.c j u hu) hne,fun j=>(World.frozen?_of_block (hg.block g h.lt (Ne.symm hne))).trans (h.f j),Nat.lt_of_lt_of_le h.lt hg.size⟩
theorem Cells.put {W:World} {g:Nat} {ds:List Value} (h:Cells W g ds) (cs:List Value) (hl:cs.length=ds.length):Cells (putAt W g 0 cs) g cs∧W.grownBy (putAt W g 0 cs) (some g):=by
 have hg:=grownBy_putAt cs W g 0
 have ha:=put_at cs (w:=W) (g:=g) (off:=0) fun j hj=>⟨_,by rw[Nat.zero_add];exact h.c j _ (List.getElem?_eq_getElem (by omega))⟩
 refine⟨⟨fun j u hu=>by have:=ha j u hu;rwa[Nat.zero_add] at this,fun j=> ?_,Nat.lt_of_lt_of_le h.lt hg.size⟩,hg⟩
 have:∀(us:List Value) (w:World) (off:Nat),(putAt w g off us).frozen? ⟨g,j,none⟩=w.frozen? ⟨g,j,none⟩:=by
  intro us
  induction us with
  |nil=>exact fun _ _=>rfl
  |cons u us ih=>intro w off;rw[putAt,ih,World.frozen?_setCell]
 rw[this]
 exact h.f j
def places (t:Int):List Int→Nat→List Int
 |[],_=>[]
 |x::xs,i=>if x==t then(i:Int)::places t xs (i+1) else places t xs (i+1)
theorem sl_one (w:World) (g:Nat) (x:Int) (t:TypeId) (hg:g=w.heap.size) (hx:Bd x):Sl intR (w.alloc (.cells #[.int .i64 x] t)) (.slice (some ⟨g,0,none⟩) 1 1) [x]:=by
 subst hg
 refine⟨_,1,rfl,Nat.le_refl _,by omega,.inr ⟨w.heap.size,0,rfl,by simp,fun i y hi=> ?_⟩⟩
 match i,hi with
 |0,hi=>
  simp at hi;subst hi
  exact⟨[.int .i64 x],⟨rfl,hx⟩,fun j u hu=>by
   match j,hu with
   |0,hu=>simp at hu;subst hu;simp[intR]⟩
theorem Own.lit {α:Type} {R:Rep α} {e B g n:Nat} {w:World} {cells:List Value} {xs:List α} (hg:g=w.heap.size) (hB:B≤w.heap.size) (hm:R.many (w.alloc (.cells cells.toArray e)) cells xs) (hn:n=xs.length) (hs:n≤1000000):
 Own R e B (w.alloc (.cells cells.toArray e)) (.slice (some ⟨g,0,none⟩) n n) xs:=by
 subst hg hn
 exact⟨cells,World.ownsRow_lit w cells.toArray _ hB (by simp only[maxLen];omega) (by simpa using R.many_len hm),hm⟩
end Go.Proofs.YtlckmjiioohcmaaGreatDoor
namespace Go.Proofs.YtlckmjiioohcmaaGreatDoor
open Go.RowKit
structure Gp where
 d:Nat
 os:Array Obj
instance:Nonempty Gp:=⟨⟨0,#[]⟩⟩
def gro (w:World) (p:Gp):World:={w with heap:=w.heap++p.os,drawn:=p.d}
theorem gro_below (w:World) (p:Gp):Below w.heap.size w (gro w p):=
 ⟨rfl,rfl,rfl,by simp[gro],fun k hk=>by simp[gro,Array.getElem?_append_left hk]⟩
theorem below_gro {w w':World} (h:Below w.heap.size w w'):∃p,w'=gro w p:=by
 refine⟨⟨w'.drawn,w'.heap.extract w.heap.size w'.heap.size⟩, ?_⟩
 have hh:w'.heap=w.heap++w'.heap.extract w.heap.size w'.heap.size:=by
  apply Array.ext_getElem?
  intro i
  rcases Nat.lt_or_ge i w.heap.size with hi|hi
  ·rw[h.block i hi,Array.getElem?_append_left hi]
  ·rw[Array.getElem?_append_right hi,Array.getElem?_extract]
   split
   ·congr 1;omega
   ·rename_i hn
    rw[Array.getElem?_eq_none]
    have:=h.size
    omega
 cases w'
 cases w
 simp only[gro]
 have h1:=h.os
 have h2:=h.tape
 have h3:=h.output
 simp only at h1 h2 h3 hh
 subst h1 h2 h3
 rw[←hh]
theorem gro_cell {w:World} {a:Addr} {v:Value} (h:w.cell? a=some v) (p:Gp):(gro w p).cell? a=some v:=cell_later (gro_below w p) h
theorem Calls.gro_of {P:Program} {f:FuncId} {args:Array Value} {w:World} {p:Gp} {v:Value}
 (h:Calls P f args (gro w p) fun e w'=>e=.returned v∧Below (gro w p).heap.size (gro w p) w'):Calls P f args (gro w p) fun e w''=>e=.returned v∧∃p',w''=gro w p':=
 h.mono fun _ _ ⟨he,hb⟩=>⟨he,below_gro ((gro_below w p).trans (hb.mono (gro_below w p).size))⟩
theorem wp_region_gro {P:Program} {id:Nat} {Q:Exit→Act→World→Prop} {a:Act} {w:World} {l:List Oper} (hm:P.follows .mixedOrders=true) (hB:Region.lexB .any l.toArray=true)
 (h:wpQuiet P l.toArray (fun w'=> ∃p,w'=gro w p) (fun a'=> ∀w',(∃p,w'=gro w p)→Q .normal a' w') l a):(Code.region id l.toArray true).wp P Q a w:=
 wp_region_quiet (C:=fun w'=> ∃p,w'=gro w p) hm hB ⟨⟨w.drawn+1,#[]⟩,by simp[gro]⟩ (by simpa using h)
end Go.Proofs.YtlckmjiioohcmaaGreatDoor
namespace Go.Proofs.YtlckmjiioohcmaaGreatDoor
open Go.RowKit
theorem bal {a w:World} {o:Obj} (h:Below a.heap.size a w):Below a.heap.size a (w.alloc o):=h.alloc h.size o
end Go.Proofs.YtlckmjiioohcmaaGreatDoor
namespace Go.Proofs.YtlckmjiioohcmaaGreatDoor
open Go
section
variable {P:Program} {ops:Array Oper} {md:Region.Mode} {w:World}
def tiedB (md:Region.Mode) (ops:Array Oper) (n:Nat):Bool:=
 (List.range ops.size).all fun t=>decide (t≤n)||(List.range ops.size).any fun u=>decide (n≤u)&&Region.waitsFor md ops t u
theorem tail_waits' {n:Nat} {listed:Array Bool} (hs:Region.sinkB md ops n=true) (hc:tiedB md ops n=true) (inv:HeadInv md ops n listed):
 ∀(d i:Nat),n-i=d→i<n→listed.getD i true=false→∀t,n≤t→t∉Region.ready md ops listed:=by
 intro d
 induction d using Nat.strongRecOn with
 |_ d ih=>
  intro i hd hi hun t ht hr
  obtain⟨_,ot,hot,hall⟩:=mem_ready.1 hr
  have htlt:t<ops.size:=(Array.getElem?_eq_some_iff.1 hot).1
  by_cases htn:t=n
  ·subst htn
   have h1:=List.all_eq_true.1 hs i (List.mem_range.2 hi)
   obtain⟨j,hj,hj2⟩:=List.any_eq_true.1 h1
   simp only[Bool.and_eq_true,decide_eq_true_eq] at hj2
   obtain⟨oj,hoj,e,he,hb,hon⟩:=Region.waitsFor_spec hj2.2
   have hjle:j≤t:=by have:=List.mem_range.1 hj;omega
   by_cases hjt:j=t
   ·subst hjt
    have:oj=ot:=Option.some.inj (hoj.symm.trans hot)
    subst this
    have h2:=hall e he hb
    rw[hon,getD_both hun] at h2
    cases h2
   ·cases hl:listed.getD j false with
    |true=>
     have h2:=inv.closed j oj hoj hl e he hb
     rw[hon,getD_both hun] at h2
     cases h2
    |false=>
     have hjs:j<listed.size:=by rw[inv.size];omega
     exact ih (t-j) (by omega) j rfl (by omega) (getD_in hjs hl) t (Nat.le_refl _) hr
  ·have h1:=List.all_eq_true.1 hc t (List.mem_range.2 htlt)
   simp only[Bool.or_eq_true,decide_eq_true_eq] at h1
   rcases h1 with h1|h1
   ·omega
   ·obtain⟨u,hu,hu2⟩:=List.any_eq_true.1 h1
    simp only[Bool.and_eq_true,decide_eq_true_eq] at hu2
    obtain⟨o',ho',e,he,hb,hon⟩:=Region.waitsFor_spec hu2.2
    have:o'=ot:=Option.some.inj (ho'.symm.trans hot)
    subst this
    have h2:=hall e he hb
    rw[hon,getD_both (inv.tail u hu2.1 (List.mem_range.1 hu))] at h2
    cases h2
def partB (ops:Array Oper) (k:Nat):Bool:=match ops[k]? with
 |some o=>(match o.op with| .extract _ _=>true|_=>false)&&o.dst.isSome
 |none=>false
def restB (md:Region.Mode) (ops:Array Oper):Nat→Nat→Array Bool→Bool
 |0,_,listed=>(Region.ready md ops listed).isEmpty
 |g+1,k,listed=>(decide (Region.ready md ops listed=[k])||((Region.ready md ops listed).contains k&&Region.free md ops listed k&&partB ops k))&&restB md ops g (k+1) (listed.setIfInBounds k true)
theorem part_yields {o:Oper} {t:Operand} {ix:Nat} (ho:o.op=.extract t ix) {a:Act} {K:Act→World→Prop} {Q':Exit→Act→World→Prop}
 (h:if Region.wanted o (yielded ops a.tmps) then o.wp P a w K Q'∨(o.asks P a w∧LetsOut Q') else K (a.put o.dst undef) w):∃v,Yields P ops o v a∧K (a.put o.dst v) w:=by
 split at h
 ·rename_i hw
  cases hv:a.eval t with
  |tuple vs=>
   cases hx:vs[ix]? with
   |some v=>
    have hrun:∀w,(execOp a.eval o).run P w=.ok (.value v) w:=fun w=>by
     simp[execOp,ho,hv,Instr.extract,hx]
    refine⟨v,.inl ⟨hw,hrun⟩, ?_⟩
    rcases h with h|⟨⟨h,_⟩,_⟩
    ·simpa[Oper.wp,hrun,Oper.upon] using h
    ·exfalso
     simp[execOp,ho,hv,Instr.extract,hx] at h
     have h':noRoomEvent∈(#[]:Array Event):=h
     simp at h'
   |none=>
    exfalso
    rcases h with h|⟨⟨h,_⟩,_⟩
    ·simp[Oper.wp,execOp,ho,hv,Instr.extract,hx,Oper.upon] at h
    ·simp[execOp,ho,hv,Instr.extract,hx] at h
     have h':noRoomEvent∈(#[]:Array Event):=h
     simp at h'
  |_=>
   exfalso
   rcases h with h|⟨⟨h,_⟩,_⟩
   ·simp[Oper.wp,execOp,ho,hv,Instr.extract,Oper.upon] at h
   ·simp[execOp,ho,hv,Instr.extract] at h
    have h':noRoomEvent∈(#[]:Array Event):=h
    simp at h'
 ·rename_i hw
  exact⟨undef,.inr ⟨by simpa using hw,rfl⟩,h⟩
theorem wpAny_of_rest {Q':Exit→Act→World→Prop} (hsel:Region.noSelect ops=true) (hQ:∀c k v a w,Q' (.panic c) (Act.put a (some k) v) w→Q' (.panic c) a w):
 ∀(l:List Oper) (k:Nat) (listed:Array Bool) (a:Act) (w:World),(∀j,l[j]?=ops[k+j]?)→restB md ops l.length k listed=true→wpList P ops Q' l a w→wpAny P md ops Q' l.length listed a w
 |[],k,listed,a,w,_,hB,h=>⟨by simpa[restB] using hB,h⟩
 |o::l,k,listed,a,w,hl,hB,h=>by
  have h0:ops[k]?=some o:=by simpa using(hl 0).symm
  have hl':∀j,l[j]?=ops[k+1+j]?:=fun j=>by have:=hl (j+1);simpa[Nat.add_assoc,Nat.add_comm 1 j] using this
  simp only[List.length_cons,restB,Bool.and_eq_true,Bool.or_eq_true,decide_eq_true_eq] at hB
  obtain⟨hB,hB'⟩:=hB
  rcases hB with hB|⟨⟨hr,hf⟩,hp⟩
  ·refine⟨fun h1=>(by rw[hB] at h1;cases h1),fun i hi=> ?_⟩
   rw[hB] at hi
   have hik:i=k:=by simpa using hi
   subst hik
   have hw:wpOp P ops Q' i (wpList P ops Q' l) a w:=by unfold wpOp;simp only[h0];exact h
   exact wpOp_mono (fun a' w' h'=>wpAny_of_rest hsel hQ l (i+1) _ a' w' hl' hB' h') hw
  ·obtain⟨⟨t,ix,ho⟩,d,hd⟩:(∃t ix,o.op=.extract t ix)∧∃d,o.dst=some d:=by
    simp only[partB,h0,Bool.and_eq_true,Option.isSome_iff_exists] at hp
    refine⟨?_,hp.2⟩
    have hp1:=hp.1
    split at hp1
    ·rename_i t ix he
     exact⟨t,ix,he⟩
    ·cases hp1
   obtain⟨v,hy,hK⟩:=part_yields ho h
   exact wpAny_take h0 hsel hf hr (fun c a w=>by rw[hd];exact hQ c _ _ a w) hy (wpAny_of_rest hsel hQ l (k+1) _ _ w hl' hB' hK)
def headTo (md:Region.Mode) (ops:Array Oper) (n g:Nat):Nat→Nat→Array Bool→Bool
 |0,k,listed=>(Region.ready md ops listed).all (fun j=>decide (n≤j))&&restB md ops g k listed
 |f+1,k,listed=>(Region.ready md ops listed).contains k&&Region.free md ops listed k&&headTo md ops n g f (k+1) (listed.setIfInBounds k true)
def seqTailB (md:Region.Mode) (ops:Array Oper) (n:Nat):Bool:=
 Region.noSelect ops&&decide (n<ops.size)&&Region.sinkB md ops n&&tiedB md ops n&&headTo md ops n (ops.size-n) n 0 (Array.replicate ops.size false)
end
end Go.Proofs.YtlckmjiioohcmaaGreatDoor
namespace Go.Proofs.YtlckmjiioohcmaaGreatDoor
open Go
section
variable {P:Program} {ops:Array Oper} {md:Region.Mode} {C:World→Prop}
def wpAnyQL (P:Program) (md:Region.Mode) (ops:Array Oper) (C:World→Prop) (n:Nat) (L:Array Bool→Act→Prop):Nat→Array Bool→Act→Prop
 |0,listed,a=>L listed a
 |f+1,listed,a=>Region.ready md ops listed≠[]∧∀i∈Region.ready md ops listed,i<n∧qOp P ops C i (wpAnyQL P md ops C n L f (listed.setIfInBounds i true)) a
theorem wpAny_of_qhead {n g:Nat} {L:Array Bool→Act→Prop} {Q':Exit→Act→World→Prop} (hL:∀listed a w,C w→L listed a→wpAny P md ops Q' g listed a w):
 ∀(f:Nat) (listed:Array Bool) (a:Act) (w:World),C w→wpAnyQL P md ops C n L f listed a→wpAny P md ops Q' (f+g) listed a w
 |0,listed,a,w,hw,h=>by rw[Nat.zero_add];exact hL _ _ _ hw h
 |f+1,listed,a,w,hw,h=>by
  rw[show f+1+g=(f+g)+1 by omega]
  exact⟨fun h0=>absurd h0 h.1,fun i hi=>wpOp_of_qOp hw (fun a' w' hw' h'=>wpAny_of_qhead hL f _ a' w' hw' h') (h.2 i hi).2⟩
theorem wpAnyQL_first {n i:Nat} {oi:Oper} {v:Value} {L:Array Bool→Act→Prop} (hi:ops[i]?=some oi) (hsel:∀(j:Nat) (o:Oper) cs b,ops[j]?=some o→o.op≠.select cs b)
 (hs:Region.sinkB md ops n=true) (hc:tiedB md ops n=true) (hin:i<n)
 (hdone:∀listed a,L listed a→∀j∈Region.ready md ops listed,n≤j):
 ∀(f:Nat) (listed:Array Bool) (a:Act),HeadInv md ops n listed→
  (∀j oj,ops[j]?=some oj→j≠i→listed.getD j true=false→(∀e∈oj.after,Region.binds md e=true→e.on≠i)→oi.apart ops oj=true)→
  i∈Region.ready md ops listed→YieldsIn P ops C oi v a→
  wpAnyQL P md ops C n L f (listed.setIfInBounds i true) (a.put oi.dst v)→wpAnyQL P md ops C n L (f+1) listed a:=by
 intro f
 induction f with
 |zero=>
  intro listed a inv _ hr hy H
  have hun:=(mem_ready.1 hr).1
  refine⟨fun h=>(by rw[h] at hr;cases hr),fun j hj=> ?_⟩
  have hjn:j<n:=by
   rcases Nat.lt_or_ge j n with h|h
   ·exact h
   ·exact absurd hj (tail_waits' hs hc inv _ i rfl hin hun j h)
  refine⟨hjn, ?_⟩
  by_cases hji:j=i
  ·subst hji;exact hy.qOp hi H
  ·have:=hdone _ _ H j (ready_mono hj hji)
   omega
 |succ f ih=>
  intro listed a inv hfree hr hy H
  have hun:=(mem_ready.1 hr).1
  refine⟨fun h=>(by rw[h] at hr;cases hr),fun j hj=> ?_⟩
  have hjn:j<n:=by
   rcases Nat.lt_or_ge j n with h|h
   ·exact h
   ·exact absurd hj (tail_waits' hs hc inv _ i rfl hin hun j h)
  refine⟨hjn, ?_⟩
  by_cases hji:j=i
  ·subst hji;exact hy.qOp hi H
  ·have h1:=(H.2 j (ready_mono hj hji)).2
   obtain⟨hjun,oj,hoj,hall⟩:=mem_ready.1 hj
   have hnot:∀e∈oj.after,Region.binds md e=true→e.on≠i:=fun e he hb heq=>by
    have h1:=hall e he hb
    rw[heq,getD_both hun] at h1
    cases h1
   have h2:=qOp_put hoj (hfree j oj hoj hji hjun hnot) (fun cs b=>hsel i oi cs b hi) (fun cs b=>hsel j oj cs b hoj) hy h1
   have hfree':∀k ok,ops[k]?=some ok→k≠i→(listed.setIfInBounds j true).getD k true=false→
    (∀e∈ok.after,Region.binds md e=true→e.on≠i)→oi.apart ops ok=true:=fun k ok hk hki hun hno=>by
    refine hfree k ok hk hki ?_ hno
    by_cases hjk:j=k
    ·subst hjk;exact hjun
    ·rw[getD_set_ne true hjk] at hun;exact hun
   refine qOp_mono (fun a' h3=>ih (listed.setIfInBounds j true) a' (inv.set hj hjn) hfree' (ready_mono hr (Ne.symm hji)) h3.1 ?_) h2
   rw[Array.setIfInBounds_comm _ _ hji]
   exact h3.2
theorem wpAnyQL_lex {n g:Nat} {Lq:Act→Prop} (hsel:Region.noSelect ops=true) (hs:Region.sinkB md ops n=true) (hc:tiedB md ops n=true):
 ∀(l:List Oper) (k:Nat) (listed:Array Bool) (a:Act),(∀j,j<l.length→l[j]?=ops[k+j]?)→k+l.length=n→HeadInv md ops n listed→
 headTo md ops n g l.length k listed=true→wpQuiet P ops C Lq l a→
 wpAnyQL P md ops C n (fun listed' a'=>((Region.ready md ops listed').all (fun j=>decide (n≤j))=true∧restB md ops g n listed'=true)∧Lq a') l.length listed a
 |[],k,listed,a,_,hk,_,hB,h=>by
  have:k=n:=by simpa using hk
  subst this
  simp only[List.length_nil,headTo,Bool.and_eq_true] at hB
  exact⟨hB,h⟩
 |o::l,k,listed,a,hl,hk,inv,hB,h=>by
  have h0:ops[k]?=some o:=by simpa using(hl 0 (by simp)).symm
  simp only[List.length_cons,headTo,Bool.and_eq_true] at hB
  obtain⟨⟨hr,hf⟩,hB'⟩:=hB
  have hkn:k<n:=by simp only[List.length_cons] at hk;omega
  have hr':k∈Region.ready md ops listed:=by simpa using hr
  have hst:qOp P ops C k (wpQuiet P ops C Lq l) a:=by unfold qOp;simp only[h0];exact h
  obtain⟨v,hy,hK⟩:=yieldsIn_of_qOp h0 hst
  exact wpAnyQL_first h0 (Region.noSelect_spec hsel) hs hc hkn (fun listed' a' hL j hj=>by have:=List.all_eq_true.1 hL.1.1 j hj;simpa using this) l.length listed a inv (Region.free_spec h0 hf) hr' hy
   (wpAnyQL_lex hsel hs hc l (k+1) _ _ (fun j hj=>by have:=hl (j+1) (by simp;omega);simpa[Nat.add_assoc,Nat.add_comm 1 j] using this) (by simp only[List.length_cons] at hk;omega) (inv.set hr' hkn) hB' hK)
theorem wp_region_gro_seq {id:Nat} {Q:Exit→Act→World→Prop} {a:Act} {w:World} {l:List Oper} (n:Nat) (hm:P.follows .mixedOrders=true) (hB:seqTailB .any l.toArray n=true)
 (hQ:∀c k v a w,Q (.panic c) (Act.put a (some k) v) w→Q (.panic c) a w)
 (h:wpQuiet P l.toArray (fun w'=> ∃p,w'=gro w p) (fun a'=> ∀w',(∃p,w'=gro w p)→wpList P l.toArray Q (l.drop n) a' w') (l.take n) a):(Code.region id l.toArray true).wp P Q a w:=by
 simp only[seqTailB,Bool.and_eq_true,decide_eq_true_eq] at hB
 obtain⟨⟨⟨⟨hsel,hn⟩,hs⟩,hc⟩,hlex⟩:=hB
 have hn':n<l.length:=by simpa using hn
 have htl:(l.take n).length=n:=by simp;omega
 have hdl:(l.drop n).length=l.toArray.size-n:=by simp
 have inv0:HeadInv .any l.toArray n (Array.replicate l.toArray.size false):=
  ⟨by simp,fun j oj _ hl=>(by rw[getD_replicate_false] at hl;cases hl),fun t _ ht=>getD_in (by simpa using ht) (getD_replicate_false _ _)⟩
 have H:=wpAnyQL_lex (md:=.any) (g:=l.toArray.size-n) hsel hs hc (l.take n) 0 _ a (fun j hj=>by
  have hj':j<n:=by rw[htl] at hj;exact hj
  simp[hj']) (by simpa using htl) inv0 (by rw[htl];exact hlex) h
 refine wp_region_any hm ?_
 have:=wpAny_of_qhead (Q':=Q) (g:=l.toArray.size-n) (fun listed a' w' hw' hL=>by
  have:=wpAny_of_rest (md:=.any) hsel hQ (l.drop n) n listed a' w' (fun j=>by simp[List.getElem?_drop]) (by rw[hdl];exact hL.1.2) (hL.2 w' hw')
  rwa[hdl] at this) _ _ _ {w with drawn:=w.drawn+1} ⟨⟨w.drawn+1,#[]⟩,by simp[gro]⟩ H
 rw[htl,show n+(l.toArray.size-n)=l.toArray.size by omega] at this
 exact this
end
end Go.Proofs.YtlckmjiioohcmaaGreatDoor
namespace Go.Proofs.YtlckmjiioohcmaaGreatDoor
open Go
section
variable {P:Program} {ops:Array Oper} {md:Region.Mode} {C:World→Prop}
def wpAnyQX (P:Program) (md:Region.Mode) (ops:Array Oper) (C:World→Prop) (st:Nat) (fin:Array Bool) (L:Act→Prop):Nat→Array Bool→Act→Prop
 |0,listed,a=>listed=fin∧L a
 |f+1,listed,a=>(∃i,i∈Region.ready md ops listed∧i≠st)∧∀i∈Region.ready md ops listed,i≠st→qOp P ops C i (wpAnyQX P md ops C st fin L f (listed.setIfInBounds i true)) a
theorem wpAnyQX_first {st i:Nat} {fin:Array Bool} {oi:Oper} {v:Value} {L:Act→Prop} (hi:ops[i]?=some oi) (hsel:∀(j:Nat) (o:Oper) cs b,ops[j]?=some o→o.op≠.select cs b)
 (hfin:∀j,j≠st→fin.getD j true=true) (hist:i≠st):
 ∀(f:Nat) (listed:Array Bool) (a:Act),
  (∀j oj,ops[j]?=some oj→j≠i→listed.getD j true=false→(∀e∈oj.after,Region.binds md e=true→e.on≠i)→oi.apart ops oj=true)→
  i∈Region.ready md ops listed→YieldsIn P ops C oi v a→
  wpAnyQX P md ops C st fin L f (listed.setIfInBounds i true) (a.put oi.dst v)→wpAnyQX P md ops C st fin L (f+1) listed a:=by
 intro f
 induction f with
 |zero=>
  intro listed a _ hr hy H
  refine⟨⟨i,hr,hist⟩,fun j hj hjs=> ?_⟩
  by_cases hji:j=i
  ·subst hji;exact hy.qOp hi H
  ·have h1:=(mem_ready.1 (ready_mono hj hji)).1
   rw[H.1,hfin j hjs] at h1
   cases h1
 |succ f ih=>
  intro listed a hfree hr hy H
  have hun:=(mem_ready.1 hr).1
  refine⟨⟨i,hr,hist⟩,fun j hj hjs=> ?_⟩
  by_cases hji:j=i
  ·subst hji;exact hy.qOp hi H
  ·have h1:=H.2 j (ready_mono hj hji) hjs
   obtain⟨hjun,oj,hoj,hall⟩:=mem_ready.1 hj
   have hnot:∀e∈oj.after,Region.binds md e=true→e.on≠i:=fun e he hb heq=>by
    have h1:=hall e he hb
    rw[heq,getD_both hun] at h1
    cases h1
   have h2:=qOp_put hoj (hfree j oj hoj hji hjun hnot) (fun cs b=>hsel i oi cs b hi) (fun cs b=>hsel j oj cs b hoj) hy h1
   have hfree':∀k ok,ops[k]?=some ok→k≠i→(listed.setIfInBounds j true).getD k true=false→
    (∀e∈ok.after,Region.binds md e=true→e.on≠i)→oi.apart ops ok=true:=fun k ok hk hki hun hno=>by
    refine hfree k ok hk hki ?_ hno
    by_cases hjk:j=k
    ·subst hjk;exact hjun
    ·rw[getD_set_ne true hjk] at hun;exact hun
   refine qOp_mono (fun a' h3=>ih (listed.setIfInBounds j true) a' hfree' (ready_mono hr (Ne.symm hji)) h3.1 ?_) h2
   rw[Array.setIfInBounds_comm _ _ hji]
   exact h3.2
def lexX (md:Region.Mode) (ops:Array Oper) (st:Nat) (fin:Array Bool):Nat→Nat→Array Bool→Bool
 |0,_,listed=>decide (listed=fin)
 |f+1,k,listed=>(Region.ready md ops listed).contains k&&Region.free md ops listed k&&decide (k≠st)&&lexX md ops st fin f (k+1) (listed.setIfInBounds k true)
theorem wpAnyQX_lex {st:Nat} {fin:Array Bool} {L:Act→Prop} (hs:Region.noSelect ops=true) (hfin:∀j,j≠st→fin.getD j true=true):∀(l:List Oper) (k:Nat) (listed:Array Bool) (a:Act),(∀j,j<l.length→l[j]?=ops[k+j]?)→
 lexX md ops st fin l.length k listed=true→wpQuiet P ops C L l a→wpAnyQX P md ops C st fin L l.length listed a
 |[],_,_,_,_,hB,h=>⟨by simpa[lexX] using hB,h⟩
 |o::l,k,listed,a,hl,hB,h=>by
  have h0:ops[k]?=some o:=by simpa using(hl 0 (by simp)).symm
  simp only[List.length_cons,lexX,Bool.and_eq_true,decide_eq_true_eq] at hB
  obtain⟨⟨⟨hr,hf⟩,hks⟩,hB'⟩:=hB
  have hst:qOp P ops C k (wpQuiet P ops C L l) a:=by unfold qOp;simp only[h0];exact h
  obtain⟨v,hy,hK⟩:=yieldsIn_of_qOp h0 hst
  exact wpAnyQX_first h0 (Region.noSelect_spec hs) hfin hks l.length listed a (Region.free_spec h0 hf) (by simpa using hr) hy
   (wpAnyQX_lex hs hfin l (k+1) _ _ (fun j hj=>by have:=hl (j+1) (by simp;omega);simpa[Nat.add_assoc,Nat.add_comm 1 j] using this) hB' hK)
theorem free_last {i st:Nat} {listed:Array Bool} (h:Region.free md ops ((Array.replicate ops.size true).setIfInBounds st false) i=true) (hl:∀j,j<ops.size→j≠i→j≠st→listed.getD j true=true):Region.free md ops listed i=true:=by
 unfold Region.free at h⊢
 cases ho:ops[i]? with
 |none=>rw[ho] at h;exact h
 |some oi=>
  rw[ho] at h
  simp only[List.all_eq_true,List.mem_range,Bool.or_eq_true] at h⊢
  intro j hj
  by_cases hji:j=i
  ·exact .inl (.inl (by simpa using hji))
  by_cases hjs:j=st
  ·rcases h j hj with(h1|h1)|h1
   ·exact .inl (.inl h1)
   ·exfalso
    subst hjs
    simp[hj] at h1
   ·exact .inr h1
  ·exact .inl (.inr (hl j hj hji hjs))
theorem part_yields_q {o:Oper} {t:Operand} {ix i:Nat} (hi:ops[i]?=some o) (ho:o.op=.extract t ix) {a:Act} {w:World} (hw:C w) {K:Act→Prop} (h:qOp P ops C i K a):∃v,Yields P ops o v a∧K (a.put o.dst v):=by
 unfold qOp at h
 simp only[hi] at h
 split at h
 ·rename_i hwt
  obtain⟨v,h1,h2⟩:=h
  have h3:=h1 w hw
  unfold Oper.quietAt at h3
  cases hv:a.eval t with
  |tuple vs=>
   cases hx:vs[ix]? with
   |some u=>
    have hrun:∀w,(execOp a.eval o).run P w=.ok (.value u) w:=fun w=>by
     simp[execOp,ho,hv,Instr.extract,hx]
    rw[hrun] at h3
    have:u=v:=by exact h3.2
    subst this
    exact⟨u,.inl ⟨hwt,hrun⟩,h2⟩
   |none=>
    exfalso
    simp[execOp,ho,hv,Instr.extract,hx,Oper.quietUpon] at h3
  |_=>
   exfalso
   simp[execOp,ho,hv,Instr.extract,Oper.quietUpon] at h3
 ·rename_i hwt
  exact⟨undef,.inr ⟨by simpa using hwt,rfl⟩,h⟩
def lateB (ops:Array Oper) (st e:Nat):Bool:=
 Region.noSelect ops&&decide (st+1=ops.size)&&decide (e≠st)&&partB ops e&&Region.free .any ops ((Array.replicate ops.size true).setIfInBounds st false) e&&
 ((List.range ops.size).all fun i=>decide (i=e)||decide (i=st)||Region.waitsFor .any ops st i)&& !Region.waitsFor .any ops e st&&
 decide (Region.ready .any ops ((Array.replicate ops.size true).setIfInBounds st false)=[st])&&(Region.ready .any ops (Array.replicate ops.size true)).isEmpty&&
 lexX .any ops st ((Array.replicate ops.size true).setIfInBounds st false) st 0 (Array.replicate ops.size false)
theorem wp_region_gro_late {id:Nat} {Q:Exit→Act→World→Prop} {a:Act} {w:World} {l:List Oper} (st e:Nat) (hm:P.follows .mixedOrders=true) (hB:lateB l.toArray st e=true)
 (hQ:∀c k v a w,Q (.panic c) (Act.put a (some k) v) w→Q (.panic c) a w)
 (h:wpQuiet P l.toArray (fun w'=> ∃p,w'=gro w p) (fun a'=> ∀w',(∃p,w'=gro w p)→wpList P l.toArray Q (l.drop st) a' w') (l.take st) a):(Code.region id l.toArray true).wp P Q a w:=by
 simp only[lateB,Bool.and_eq_true,decide_eq_true_eq] at hB
 obtain⟨⟨⟨⟨⟨⟨⟨⟨⟨hsel,hN⟩,hes⟩,hpart⟩,hfree⟩,hwait⟩,hno⟩,hr1⟩,hr2⟩,hlex⟩:=hB
 have hN':st+1=l.length:=by simpa using hN
 have htl:(l.take st).length=st:=by simp;omega
 have hfin:∀j,j≠st→((Array.replicate l.toArray.size true).setIfInBounds st false).getD j true=true:=fun j hj=>by
  rcases Nat.lt_or_ge j l.toArray.size with h|h
  ·have hj':j<l.length:=by simpa using h
   rw[Array.getD_eq_getD_getElem?,Array.getElem?_setIfInBounds_ne (Ne.symm hj)]
   simp[hj']
  ·have hj':l.length≤j:=by simpa using h
   rw[Array.getD_eq_getD_getElem?,Array.getElem?_setIfInBounds_ne (Ne.symm hj)]
   simp[hj']
 have H:=wpAnyQX_lex (C:=fun w'=> ∃p,w'=gro w p) (md:=.any) (st:=st) (fin:=(Array.replicate l.toArray.size true).setIfInBounds st false) hsel hfin (l.take st) 0 (Array.replicate l.toArray.size false) a (fun j hj=>by
  have hj':j<st:=by rw[htl] at hj;exact hj
  simp[hj']) (by rw[htl];exact hlex) h
 rw[htl] at H
 obtain⟨oe,hoe,⟨t,ix,hop⟩,d,hd⟩:∃oe,l.toArray[e]?=some oe∧(∃t ix,oe.op=.extract t ix)∧∃d,oe.dst=some d:=by
  unfold partB at hpart
  split at hpart
  ·rename_i o ho
   simp only[Bool.and_eq_true,Option.isSome_iff_exists] at hpart
   refine⟨o,ho, ?_,hpart.2⟩
   have hp1:=hpart.1
   split at hp1
   ·rename_i t ix he
    exact⟨t,ix,he⟩
   ·cases hp1
  ·cases hpart
 have hlast:l.drop st=[l[st]]:=by rw[List.drop_eq_getElem_cons (by omega),List.drop_eq_nil_of_le (by omega)]
 have hst0:l.toArray[st]?=some l[st]:=by simp
 have main:∀(f:Nat) (listed:Array Bool) (a:Act) (w1:World),(∃p,w1=gro w p)→listed.size=l.toArray.size→listed.getD st true=false→
  wpAnyQX P .any l.toArray (fun w'=> ∃p,w'=gro w p) st ((Array.replicate l.toArray.size true).setIfInBounds st false) (fun a'=> ∀w',(∃p,w'=gro w p)→wpList P l.toArray Q (l.drop st) a' w') f listed a→
  wpAny P .any l.toArray Q (f+1) listed a w1:=by
  intro f
  induction f with
  |zero=>
   intro listed a w1 hw1 hsz hun H
   obtain⟨rfl,H⟩:=H
   refine⟨fun h0=>(by rw[hr1] at h0;cases h0),fun i hi=> ?_⟩
   rw[hr1] at hi
   have hi':i=st:=by simpa using hi
   subst hi'
   have h1:=H w1 hw1
   rw[hlast] at h1
   have hw:wpOp P l.toArray Q i (wpList P l.toArray Q []) a w1:=by unfold wpOp;simp only[hst0];exact h1
   refine wpOp_mono (fun a' w' h'=> ?_) hw
   have hfull:((Array.replicate l.toArray.size true).setIfInBounds i false).setIfInBounds i true=Array.replicate l.toArray.size true:=by
    apply Array.ext_getElem?
    intro j
    by_cases hj:j=i
    ·subst hj
     have:j<l.length:=by omega
     simp[this]
    ·rw[Array.getElem?_setIfInBounds_ne (Ne.symm hj),Array.getElem?_setIfInBounds_ne (Ne.symm hj)]
   rw[hfull]
   exact⟨by simpa using hr2,h'⟩
  |succ f ih=>
   intro listed a w1 hw1 hsz hun H
   obtain⟨⟨i0,hi0,hi0s⟩,H⟩:=H
   have keep:∀i,i≠st→(listed.setIfInBounds i true).getD st true=false:=fun i hi=>by rw[getD_set_ne true hi];exact hun
   by_cases hst:st∈Region.ready .any l.toArray listed
   ·have hdone:∀j,j<l.toArray.size→j≠e→j≠st→listed.getD j true=true:=fun j hlt hje hjs=>by
     have h2:=List.all_eq_true.1 hwait j (List.mem_range.2 hlt)
     simp only[Bool.or_eq_true,decide_eq_true_eq] at h2
     rcases h2 with(h2|h2)|h2
     ·exact absurd h2 hje
     ·exact absurd h2 hjs
     ·obtain⟨os,hos,x,hx,hb,hon⟩:=Region.waitsFor_spec h2
      obtain⟨_,os',hos',hall⟩:=mem_ready.1 hst
      have:os=os':=Option.some.inj (hos.symm.trans hos')
      subst this
      have h3:=hall x hx hb
      rw[hon] at h3
      cases h1:listed.getD j true with
      |true=>rfl
      |false=>rw[getD_both h1] at h3;cases h3
    have hi0e:i0=e:=by
     obtain⟨h1,o0,ho0,_⟩:=mem_ready.1 hi0
     have hlt:i0<l.toArray.size:=(Array.getElem?_eq_some_iff.1 ho0).1
     rcases Nat.decEq i0 e with h|h
     ·rw[hdone i0 hlt h hi0s] at h1
      cases h1
     ·exact h
    subst hi0e
    obtain⟨v,hy,hK⟩:=part_yields_q hoe hop hw1 (H i0 hi0 hi0s)
    exact wpAny_take hoe hsel (free_last hfree hdone) (by simpa using hi0) (fun c a w=>by rw[hd];exact hQ c _ _ a w) hy (ih _ _ w1 hw1 (by simp[hsz]) (keep i0 hi0s) hK)
   ·refine⟨fun h0=>(by rw[h0] at hi0;cases hi0),fun i hi=> ?_⟩
    have his:i≠st:=fun e=>hst (by rw[←e];exact hi)
    exact wpOp_of_qOp hw1 (fun a' w' hw' h'=>ih _ a' w' hw' (by simp[hsz]) (keep i his) h') (H i hi his)
 refine wp_region_any hm ?_
 have:=main st _ a {w with drawn:=w.drawn+1} ⟨⟨w.drawn+1,#[]⟩,by simp[gro]⟩ (by simp) (getD_in (by simp;omega) (getD_replicate_false _ _)) H
 rwa[hN] at this
end
end Go.Proofs.YtlckmjiioohcmaaGreatDoor
namespace Go.Proofs.YtlckmjiioohcmaaGreatDoor
open Go.RowKit
def noDefer (ops:Array Oper):Bool:=ops.all fun o=>match o.op with
 | .defer _=>false
 |_=>true
theorem noDefer_spec {ops:Array Oper} (h:noDefer ops=true) {i:Nat} {o:Oper} (hi:ops[i]?=some o):∀c,o.op≠.defer c:=by
 intro c hc
 have h1:o∈ops:=Array.mem_of_getElem? hi
 have h2:=Array.all_eq_true'.1 h o h1
 rw[hc] at h2
 cases h2
variable {P:Program} {C:World→Prop} {l n:Nat} {ops:Array Oper} {md:Region.Mode}
theorem wpIn_of_quiet_round {o:Oper} (hd:∀c,o.op≠.defer c) {a:Act} {K:Act→Prop} {K':Act→World→Prop} {Q':Exit→Act→World→Prop} {w:World} (hw:C w) (h:∀a w',C w'→K a→K' a w') (hh:o.quiet P a C K):
 o.wpIn (Fence.wide.inRound l) n P a w K' Q':=by
 obtain⟨v,h1,h2⟩:=hh
 have h3:=h1 w hw
 unfold Oper.quietAt at h3
 unfold Oper.wpIn
 refine⟨fun _ _=>trivial, ?_⟩
 rw[show(Fence.wide.inRound l).round=some l from rfl,Oper.semAt_some _ _ _ hd]
 generalize(execOp a.eval o).run P w=r at*
 cases r with
 |ok x w'=>
  cases x<;>simp only[Oper.quietUpon] at h3<;>simp only[Oper.uponIn]
  case value u=>
   obtain⟨e1,e2⟩:=h3
   rw[e1,e2]
   exact h _ _ hw h2
  case skip=>
   obtain⟨e1,e2⟩:=h3
   rw[e1,←e2]
   exact h _ _ hw h2
  case enter f args=>
   obtain⟨e1,hc⟩:=h3
   rw[e1]
   refine⟨fun hx=>by simp[Fence.wide] at hx, ?_⟩
   have hc':CallsIn (Fence.wide.inRound l) (n-1) P f args w fun e w''=>e=.returned v∧C w'':=callsIn_wide.2 hc
   exact hc'.mono fun e w'' ⟨he,hw''⟩=>by subst he;exact h _ _ hw'' h2
 |halt x w'=>simp only[Oper.quietUpon] at h3
theorem wpOpIn_of_qOp_round (hnd:noDefer ops=true) {i:Nat} {a:Act} {K:Act→Prop} {K':Act→World→Prop} {Q':Exit→Act→World→Prop} {w:World} (hC:C w) (h:∀a w',C w'→K a→K' a w') (hh:qOp P ops C i K a):
 wpOpIn (Fence.wide.inRound l) n P ops Q' i K' a w:=by
 unfold qOp at hh
 unfold wpOpIn
 split
 ·rename_i ho;simp only[ho] at hh;exact h _ _ hC hh
 ·rename_i o ho
  simp only[ho] at hh
  split
  ·rename_i hw;simp only[hw,if_true] at hh;exact wpIn_of_quiet_round (noDefer_spec hnd ho) hC h hh
  ·rename_i hw;simp only[hw] at hh;exact⟨fun _ _=>trivial,h _ _ hC hh⟩
theorem wpAnyIn_of_quiet_round (hnd:noDefer ops=true) {Q:Act→Prop} {Q':Exit→Act→World→Prop} (hQ:∀a w,C w→Q a→Q' .normal a w):∀(fuel:Nat) (listed:Array Bool) (a:Act) (w:World),C w→
 wpAnyQ P md ops C Q fuel listed a→wpAnyIn (Fence.wide.inRound l) n P md ops Q' fuel listed a w
 |0,_,_,_,hw,h=>⟨h.1,hQ _ _ hw h.2⟩
 |fuel+1,_,_,_,hw,h=>⟨fun h0=>hQ _ _ hw (h.1 h0),fun i hi=>wpOpIn_of_qOp_round hnd hw (fun a' w' hw'=>wpAnyIn_of_quiet_round hnd hQ fuel _ a' w' hw') (h.2 i hi)⟩
theorem wpIn_region_gro_round {id:Nat} {Q:Exit→Act→World→Prop} {a:Act} {w:World} {li:List Oper} (hm:P.follows .mixedOrders=true) (hB:Region.lexB .any li.toArray=true) (hnd:noDefer li.toArray=true)
 (h:wpQuiet P li.toArray (fun w'=> ∃p,w'=gro w p) (fun a'=> ∀w',(∃p,w'=gro w p)→Q .normal a' w') li a):(Code.region id li.toArray true).wpIn (Fence.wide.inRound l) n P Q a w:=by
 simp only[Region.lexB,Bool.and_eq_true] at hB
 refine wpIn_region_any hm (wpAnyIn_of_quiet_round (C:=fun w'=> ∃p,w'=gro w p) hnd (Q:=fun a'=> ∀w',(∃p,w'=gro w p)→Q .normal a' w') (fun _ w' hw' h=>h w' hw') _ _ _ _ ⟨⟨w.drawn+1,#[]⟩,by simp[gro]⟩ ?_)
 have:=wpAnyQ_lex (C:=fun w'=> ∃p,w'=gro w p) (md:=.any) hB.1 li.toArray.toList 0 (Array.replicate li.toArray.size false) a (by simp) (by simpa using hB.2) (by simpa using h)
 simpa using this
end Go.Proofs.YtlckmjiioohcmaaGreatDoor
namespace Go.Proofs.YtlckmjiioohcmaaGreatDoor
open Go.RowKit
section
variable {P:Program} {ops:Array Oper} {Q:Exit→Act→World→Prop} {md:Region.Mode} {w:World}
end
end Go.Proofs.YtlckmjiioohcmaaGreatDoor
namespace Go.Proofs.YtlckmjiioohcmaaGreatDoor
open Go.RowKit
section
variable {P:Program} {ops:Array Oper} {Q:Exit→Act→World→Prop}
def midQ (Q:Exit→Act→World→Prop) (M:Act→World→Prop):Exit→Act→World→Prop
 | .normal,a,w=>M a w
 |e,a,w=>Q e a w
theorem wpOp_mid {M:Act→World→Prop} {i:Nat} {K:Act→World→Prop} {a:Act} {w:World} (h:wpOp P ops (midQ Q M) i K a w):wpOp P ops Q i K a w:=by
 unfold wpOp at h⊢
 split
 ·rename_i h0;simpa[h0] using h
 ·rename_i o h0
  simp only[h0] at h
  split
  ·rename_i hw
   simp only[hw,if_true] at h
   refine h.imp (fun h=> ?_) id
   unfold Oper.wp at h⊢
   generalize(execOp a.eval o).run P w=r at h
   cases r with
   |ok n w'=>
    cases n<;>simp only[Oper.upon] at h⊢ <;>
     first
      |exact h
      |exact Calls.mono h (fun e w'' he=>by cases e<;>exact he)
   |halt x w'=>cases x<;>simp only[Oper.upon] at h⊢ <;>exact h
  ·rename_i hw
   simp only[hw] at h
   exact h
end
end Go.Proofs.YtlckmjiioohcmaaGreatDoor
namespace Go.Proofs.YtlckmjiioohcmaaGreatDoor
open Go.RowKit Go.ChangeShapes Go.WideShapes Go.ChangeAt
def rowed (P:Program) (ts:List TypeId):Bool:=ts.all fun t=>P.readableRec t&&decide (t<P.types.size)
section
variable {H:Type} {enc:TypeId×Value→H} {P:Program}
theorem trodAll_below (hl:laidOutB P=true) {W W':World} {sp:Nat→Bool} (hb:Below W.heap.size W W'):
 ∀{ts:List TypeId} {vs:List Value} {ds:List (DataW H)} {ps:List MemPlace},rowed P ts=true→DataW.TrodAll enc P W 0 (fun _=>true) true ts vs ds ps→
  (∀x∈ps,x.block<W.heap.size)→(∀x∈ps,sp x.block=true)→DataW.TrodAll enc P W' 0 sp true ts vs ds ps
 |[],[],[],_,_,h,_,_=>h
 |t::ts,v::vs,d::ds,ps,hr,⟨p,q,h1,h2,e⟩,hlt,hsp=>by
  subst e
  simp only[rowed,List.all_cons,Bool.and_eq_true,decide_eq_true_eq] at hr
  exact⟨p,q,Go.WideElems.Trod_stays hl hr.1.1 hr.1.2 h1 (fun x hx=>hb.same (hlt x (by simp[hx]))) (fun x hx=>hsp x (by simp[hx])),
   trodAll_below hl hb hr.2 h2 (fun x hx=>hlt x (by simp[hx])) (fun x hx=>hsp x (by simp[hx])),rfl⟩
 |[],_::_,_,_,_,h,_,_=>h.elim
 |[],[],_::_,_,_,h,_,_=>h.elim
 |_::_,[],_,_,_,h,_,_=>h.elim
 |_::_,_::_,[],_,_,h,_,_=>h.elim
theorem law_post {f:Func} {s:ChangeSpec} {apart:Bool} {W W':World} {args:Array Value} {ds gs:List (DataW H)} {before:List MemPlace} {tb:TypeId} (hl:laidOutB P=true)
 (hr:rowed P f.params.toList=true) (hres:f.resultTypes=#[tb]) (hub:P.underlying tb=some .bool) (hv:s.vars=[]) (hfn:s.fn H ds={results:=[.lit (.bool true)],args:=ds})
 (hW:DataW.Whole enc P f.params.toList s.vars apart W args.toList ds gs before) (hb:Below W.heap.size W W'):s.post enc P f apart true false false W args (.bool true) W':=by
 have hlt:∀p∈before,p.block<W.heap.size:=fun p hp=>hW.lt p hp
 have hW':=hW
 obtain⟨p,q,hA,hV,rfl,_,_⟩:=hW'
 rw[hv] at hV
 obtain⟨rfl,rfl⟩:=trodVars_none hV
 refine⟨ds,[],p++[],[],p,[],hW, ?_, ?_, ?_, ?_,fun h=>by cases h⟩
 ·rw[hres,List.append_nil,hfn]
  exact trodAll_mk1 (shut_bool hub _)
 ·rw[List.append_nil,hfn]
  exact trodAll_below hl hb hr hA (fun x hx=>hlt x (by simpa using hx)) (fun x hx=>by simpa using hlt x (by simpa using hx))
 ·rw[List.append_nil,hfn,hv]
  rfl
 ·exact hb.frame _
theorem law_calls {f:Func} {fi:FuncId} {s:ChangeSpec} {apart:Bool} {W:World} {args:Array Value} {ds gs:List (DataW H)} {before:List MemPlace} {tb:TypeId} (hl:laidOutB P=true)
 (hr:rowed P f.params.toList=true) (hres:f.resultTypes=#[tb]) (hub:P.underlying tb=some .bool) (hv:s.vars=[]) (hfn:s.fn H ds={results:=[.lit (.bool true)],args:=ds})
 (hW:DataW.Whole enc P f.params.toList s.vars apart W args.toList ds gs before) (h:Calls P fi args W fun e W'=>e=.returned (.bool true)∧Below W.heap.size W W'):
 Calls P fi args W fun e W'=> ∃v,e=.returned v∧s.post enc P f apart true false false W args v W':=
 h.mono fun _ _ ⟨he,hb⟩=>⟨_,he,law_post hl hr hres hub hv hfn hW hb⟩
theorem cell_plain {W:World} {a:Addr} {v:Value} (h:W.cell? a=some v):a.spot=none∧a.block<W.heap.size:=by
 unfold World.cell? at h
 split at h
 ·rename_i c _ _ hc
  refine⟨?_,(Array.getElem?_eq_some_iff.1 hc).1⟩
  split at h
  ·cases h
  ·rename_i hs;simpa using hs
 ·cases h
theorem sl_in {α:Type} (R:Rep α) {W:World} {t e:TypeId} {n:Nat} {v:Value} {y:DataW H×List MemPlace} (ht:P.underlying t=some (.slice e)) (hsz:P.cellsOf e=R.size) (hpos:0<R.size)
 (helem:∀n cs y,cs.length=R.size→DataW.trod enc P W 0 (fun _=>true) true n e cs=some y→∃x,R.is W cs x)
 (h:DataW.trod enc P W 0 (fun _=>true) true n t [v]=some y):∃xs,Sl R W v xs:=by
 rcases Go.Deep.open_slice ht h with⟨hcs,_⟩|⟨a,len,cap,m,n',D,Pl,hcs,_,hl,hm,hmm,_,hi⟩
 ·injection hcs with hcs
  subst hcs
  exact⟨[],Sl.none R W⟩
 ·injection hcs with hcs
  subst hcs
  simp only[if_true] at hmm
  subst hmm
  have hm':m≤9223372036854775807:=hm
  by_cases h0:m=0
  ·have hl0:len=0:=by omega
   subst h0 hl0
   exact⟨[],some a,0,rfl,Nat.le_refl _,by omega,.inl ⟨rfl,rfl⟩⟩
  obtain⟨cs0,hc0,_⟩:=hi 0 (by omega)
  obtain⟨_,hl0,hat0⟩:=World.cells?_some hc0
  have h1:=hat0 0 (by omega)
  rw[List.getElem?_eq_getElem (show 0<cs0.length by omega)] at h1
  have ha0:(a.add (0*P.cellsOf e)).add 0=a:=by simp[Addr.add]
  rw[ha0] at h1
  obtain⟨hspot,hb⟩:=cell_plain h1
  obtain⟨b,off,spot⟩:=a
  simp only at hspot hb
  subst hspot
  clear h1 ha0 hat0 hl0 hc0
  have hx:∀i:Fin len,∃x cs,R.is W cs x∧At W b (off+i.val*R.size) cs:=fun i=>by
   obtain⟨cs,hc,htr⟩:=hi i.val (by omega)
   obtain⟨_,hlen,hat⟩:=World.cells?_some hc
   obtain⟨x,hx⟩:=helem _ _ _ (by omega) htr
   refine⟨x,cs,hx,fun j u hu=> ?_⟩
   have hj:j<P.cellsOf e:=by
    rcases Nat.lt_or_ge j cs.length with h|h
    ·omega
    ·rw[List.getElem?_eq_none h] at hu;cases hu
   have h1:=hat j hj
   rw[hu,hsz,Go.Deep.add_add] at h1
   rw[←h1]
   simp only[Addr.add]
   split
   ·rename_i h0
    rw[show off+i.val*R.size+j=off by omega]
   ·rw[Nat.add_assoc]
  refine⟨List.ofFn fun i=>Classical.choose (hx i),some ⟨b,off,none⟩,m,by simp,by simpa using hl,hm',.inr ⟨b,off,rfl,hb,fun i x he=> ?_⟩⟩
  have hil:i<len:=by
   rcases Nat.lt_or_ge i len with h|h
   ·exact h
   ·rw[List.getElem?_eq_none (by simpa using h)] at he;cases he
  rw[List.getElem?_ofFn,dif_pos hil] at he
  injection he with he
  subst he
  exact Classical.choose_spec (hx ⟨i,hil⟩)
theorem trod_field {W:World} {t:TypeId} {fs:Array Field} {n:Nat} {cs:List Value} {y:DataW H×List MemPlace} (ht:P.underlying t=some (.struct fs)) (h:DataW.trod enc P W 0 (fun _=>true) true n t cs=some y) (i:Nat) {f:Field} (hf:fs[i]?=some f):
 ∃m z,DataW.trod enc P W 0 (fun _=>true) true m f.type ((cs.drop f.offset).take (P.cellsOf f.type))=some z:=by
 obtain⟨xs,m,_,_,_,hlen,hx⟩:=DataW.trod_struct ht h
 have h1:=hx i f hf
 have hi:i<xs.length:=by rw[hlen];exact(Array.getElem?_eq_some_iff.1 hf).1
 rw[List.getElem?_eq_getElem hi] at h1
 exact⟨m,_,h1⟩
end
end Go.Proofs.YtlckmjiioohcmaaGreatDoor
namespace Go.Proofs.YtlckmjiioohcmaaGreatDoor
def lexlt (key:Int→Int) (a b:Int):Prop:=key a<key b∨(key a=key b∧a<b)
def Asc (key:Int→Int) (l:List Int):Prop:=l.Pairwise (lexlt key)
theorem lexlt_trans {key:Int→Int} {a b c:Int} (h:lexlt key a b) (h':lexlt key b c):lexlt key a c:=by unfold lexlt at*;omega
theorem lexlt_asymm {key:Int→Int} {a b:Int} (h:lexlt key a b) (h':lexlt key b a):False:=by unfold lexlt at*;omega
theorem asc_unique {key:Int→Int}:∀{l l':List Int},l.Perm l'→Asc key l→Asc key l'→l=l'
 |[],l',p,_,_=>p.nil_eq
 |a::l,[],p,_,_=>absurd p.length_eq (by simp)
 |a::l,b::l',p,h,h'=>by
  have e:a=b:=by
   by_cases hab:a=b
   ·exact hab
   ·exfalso
    have h1:a∈b::l':=p.mem_iff.1 (by simp)
    have h2:b∈a::l:=p.mem_iff.2 (by simp)
    rcases List.mem_cons.1 h1 with h1|h1
    ·exact hab h1
    rcases List.mem_cons.1 h2 with h2|h2
    ·exact hab h2.symm
    exact lexlt_asymm ((List.pairwise_cons.1 h).1 b h2) ((List.pairwise_cons.1 h').1 a h1)
  subst e
  rw[asc_unique ((List.perm_cons a).1 p) (List.pairwise_cons.1 h).2 (List.pairwise_cons.1 h').2]
def insS (key:Int→Int) (x:Int):List Int→List Int
 |[]=>[x]
 |y::l=>if key x<key y then x::y::l else y::insS key x l
def srt (key:Int→Int) (l:List Int):List Int:=l.foldl (fun acc x=>insS key x acc) []
theorem insS_perm (key:Int→Int) (x:Int):∀l:List Int,(insS key x l).Perm (x::l)
 |[]=>List.Perm.refl _
 |y::l=>by
  unfold insS
  split
  ·exact List.Perm.refl _
  ·exact((insS_perm key x l).cons y).trans (List.Perm.swap x y l)
theorem insS_asc {key:Int→Int} {x:Int}:∀{l:List Int},Asc key l→(∀y∈l,y<x)→Asc key (insS key x l)
 |[],_,_=>by simp[insS,Asc]
 |y::l,h,hx=>by
  obtain⟨h1,h2⟩:=List.pairwise_cons.1 h
  have hy:=hx y (by simp)
  unfold insS
  split
  ·rename_i hk
   have h3:lexlt key x y:=.inl hk
   exact List.pairwise_cons.2 ⟨fun z hz=>by
    rcases List.mem_cons.1 hz with rfl|hz
    ·exact h3
    ·exact lexlt_trans h3 (h1 z hz),h⟩
  ·rename_i hk
   have h3:lexlt key y x:=by unfold lexlt;omega
   refine List.pairwise_cons.2 ⟨fun z hz=> ?_,insS_asc h2 fun z hz=>hx z (by simp[hz])⟩
   rcases List.mem_cons.1 ((insS_perm key x l).mem_iff.1 hz) with rfl|hz
   ·exact h3
   ·exact h1 z hz
theorem srt_acc {key:Int→Int}:∀(l acc:List Int),Asc key acc→(∀y∈acc,∀x∈l,y<x)→l.Pairwise (· < ·)→
 (l.foldl (fun acc x=>insS key x acc) acc).Perm (acc++l)∧Asc key (l.foldl (fun acc x=>insS key x acc) acc)
 |[],acc,h,_,_=>⟨by simp,h⟩
 |x::l,acc,h,hx,hp=>by
  obtain⟨p1,p2⟩:=List.pairwise_cons.1 hp
  have hs:∀y∈insS key x acc,∀z∈l,y<z:=fun y hy z hz=>by
   rcases List.mem_cons.1 ((insS_perm key x acc).mem_iff.1 hy) with rfl|hy
   ·exact p1 z hz
   ·exact hx y hy z (by simp[hz])
  obtain⟨h1,h2⟩:=srt_acc l (insS key x acc) (insS_asc h fun y hy=>hx y hy x (by simp)) hs p2
  refine⟨h1.trans (((insS_perm key x acc).append_right l).trans ?_),h2⟩
  exact(List.perm_middle (a:=x) (l₁:=acc) (l₂:=l)).symm
theorem srt_spec {key:Int→Int} {l:List Int} (h:l.Pairwise (· < ·)):(srt key l).Perm l∧Asc key (srt key l):=by
 have:=srt_acc (key:=key) l [] List.Pairwise.nil (by simp) h
 unfold srt
 simpa using this
theorem srt_eq {key:Int→Int} {l m:List Int} (h:l.Pairwise (· < ·)) (p:m.Perm l) (hm:Asc key m):m=srt key l:=
 asc_unique (p.trans (srt_spec h).1.symm) hm (srt_spec h).2
theorem asc_le {key:Int→Int} {l:List Int} (h:Asc key l) {i j:Nat} (hj:j<l.length) (hij:i≤j):l[i]=l[j]∨lexlt key l[i] l[j]:=by
 rcases Nat.lt_or_eq_of_le hij with h1|rfl
 ·exact .inr (List.pairwise_iff_getElem.1 h i j (by omega) hj h1)
 ·exact .inl rfl
theorem asc_append {key:Int→Int} {a b:List Int} (ha:Asc key a) (hb:Asc key b) (h:∀x∈a,∀y∈b,lexlt key x y):Asc key (a++b):=List.pairwise_append.2 ⟨ha,hb,h⟩
theorem mem_take_i {l:List Int} {n:Nat} {x:Int} (h:x∈l.take n):∃i,∃hi:i<l.length,i<n∧x=l[i]:=by
 obtain⟨i,hi,rfl⟩:=List.getElem_of_mem h
 rw[List.length_take] at hi
 exact⟨i,by omega,by omega,List.getElem_take⟩
theorem mem_drop_i {l:List Int} {n:Nat} {x:Int} (h:x∈l.drop n):∃i,∃hi:i<l.length,n≤i∧x=l[i]:=by
 obtain⟨i,hi,rfl⟩:=List.getElem_of_mem h
 rw[List.length_drop] at hi
 exact⟨n+i,by omega,by omega,List.getElem_drop⟩
theorem one_left {key:Int→Int} {x:Int} {R:List Int} {i:Nat} (hR:Asc key R) (hx:∀y∈R,x<y) (h1:∀k,(hk:k<R.length)→k<i→key R[k]<key x) (h2:∀k,(hk:k<R.length)→i≤k→¬key R[k]<key x):
 Asc key (R.take i++x::R.drop i):=by
 refine asc_append (hR.sublist (List.take_sublist i R)) (List.pairwise_cons.2 ⟨fun y hy=> ?_,hR.sublist (List.drop_sublist i R)⟩) fun y hy z hz=> ?_
 ·obtain⟨k,hk,hi,rfl⟩:=mem_drop_i hy
  have:=h2 k hk hi
  have:=hx R[k] (List.getElem_mem hk)
  unfold lexlt
  omega
 ·obtain⟨k,hk,hi,rfl⟩:=mem_take_i hy
  rcases List.mem_cons.1 hz with rfl|hz
  ·exact .inl (h1 k hk hi)
  ·obtain⟨j,hj,hij,rfl⟩:=mem_drop_i hz
   rcases asc_le hR hj (show k≤j by omega) with e|e
   ·have:=h1 k hk hi
    have:=h2 j hj hij
    rw[e] at*
    omega
   ·exact e
theorem one_right {key:Int→Int} {x:Int} {L:List Int} {i:Nat} (hL:Asc key L) (hx:∀y∈L,y<x) (h1:∀k,(hk:k<L.length)→k<i→¬key x<key L[k]) (h2:∀k,(hk:k<L.length)→i≤k→key x<key L[k]):
 Asc key (L.take i++x::L.drop i):=by
 refine asc_append (hL.sublist (List.take_sublist i L)) (List.pairwise_cons.2 ⟨fun y hy=> ?_,hL.sublist (List.drop_sublist i L)⟩) fun y hy z hz=> ?_
 ·obtain⟨k,hk,hi,rfl⟩:=mem_drop_i hy
  exact .inl (h2 k hk hi)
 ·obtain⟨k,hk,hi,rfl⟩:=mem_take_i hy
  rcases List.mem_cons.1 hz with rfl|hz
  ·have:=h1 k hk hi
   have:=hx L[k] (List.getElem_mem hk)
   unfold lexlt
   omega
  ·obtain⟨j,hj,hij,rfl⟩:=mem_drop_i hz
   rcases asc_le hL hj (show k≤j by omega) with e|e
   ·have:=h1 k hk hi
    have:=h2 j hj hij
    rw[e] at*
    omega
   ·exact e
theorem sym_split {key:Int→Int} {L R:List Int} {q lo hi s:Nat} (hL:Asc key L) (hR:Asc key R) (hc:∀x∈L,∀y∈R,x<y) (hlo:lo=0∧q≤R.length∨lo+R.length=q) (hhi:hi=q∧q≤L.length∨hi=L.length)
 (h1:lo≤s) (h2:s≤hi) (hq:s≤q) (A:∀k,lo≤k→k<s→(h:k<L.length)→(h':q-1-k<R.length)→¬key R[q-1-k]<key L[k])
 (B:∀k,s≤k→k<hi→(h:k<L.length)→(h':q-1-k<R.length)→key R[q-1-k]<key L[k]):
 (∀x∈L.take s,∀y∈R.drop (q-s),lexlt key x y)∧∀y∈R.take (q-s),∀x∈L.drop s,lexlt key y x:=by
 refine⟨fun x hx y hy=> ?_,fun y hy x hx=> ?_⟩
 ·obtain⟨i,hi',his,rfl⟩:=mem_take_i hx
  obtain⟨j,hj,hqj,rfl⟩:=mem_drop_i hy
  have hlos:lo<s:=by omega
  have a:=A (s-1) (by omega) (by omega)
  by_cases hsl:s-1<L.length
  ·have e1:q-1-(s-1)=q-s:=by omega
   have a:=a hsl (by rw[e1];omega)
   simp only[e1] at a
   have c:=hc L[s-1] (List.getElem_mem hsl) (R[q-s]'(by omega)) (List.getElem_mem _)
   have l1:lexlt key L[s-1] (R[q-s]'(by omega)):=by unfold lexlt;omega
   have l2:=asc_le hL hsl (show i≤s-1 by omega)
   have l3:=asc_le hR hj hqj
   have l4:lexlt key L[i] (R[q-s]'(by omega)):=by
    rcases l2 with e|e
    ·rw[e];exact l1
    ·exact lexlt_trans e l1
   rcases l3 with e|e
   ·rw[←e];exact l4
   ·exact lexlt_trans l4 e
  ·exfalso
   rcases hhi with h|h<;>omega
 ·obtain⟨j,hj,hqj,rfl⟩:=mem_take_i hy
  obtain⟨i,hi',his,rfl⟩:=mem_drop_i hx
  by_cases hr:q-1-s<R.length
  ·have b:=B s (Nat.le_refl _) (by omega) (by omega) hr
   have l1:lexlt key R[q-1-s] (L[s]'(by omega)):=.inl b
   have l2:=asc_le hR hr (show j≤q-1-s by omega)
   have l3:=asc_le hL hi' his
   have l4:lexlt key R[j] (L[s]'(by omega)):=by
    rcases l2 with e|e
    ·rw[e];exact l1
    ·exact lexlt_trans e l1
   rcases l3 with e|e
   ·rw[←e];exact l4
   ·exact lexlt_trans l4 e
  ·exfalso
   omega
end Go.Proofs.YtlckmjiioohcmaaGreatDoor
