/-
  A map from numbers to bools that the call makes; entries put into it in whatever order a region draws. Conditions: as each theorem says.
  What plans.Check answers, in plain words; the sum of the fields that an operation has. Conditions: as each theorem says.
  Walk of plans.Check. Conditions: as the theorem says.
  Walks of plans.Target and model.refused. Conditions: as each theorem says.
-/
import Derived.Test.YtlckmjiioohcmaaGreatDoorLib
import Derived.Test.YtlckmjiioohcmaaGreatDoorProg
import Derived.Deep.RegionHeld3
import Derived.Maps.OwnOps
import Derived.Maps.Views
import Derived.Maps.RangeWalk
import Derived.Test.YtlckmjiioohcmaaGreatDoorVnI
import Derived.Test.YtlckmjiioohcmaaGreatDoorMdP
namespace Go.Proofs.YtlckmjiioohcmaaGreatDoor
open Go.RowKit Go.Maps
def MapB (P:Program) (k e:TypeId) (W:World) (b n:Nat) (T:List (Int×Bool)):Prop:=
 ∃D:DataW Unit,IsMap D∧W.ownsMap P k (plainElem P e) b n D∧(∀x,Maps.has D (.int .i64 x)=T.any (fun p=>p.1==x))∧∀p∈T,∀zd,D.atKey (.int .i64 p.1) zd=.lit (.bool p.2)
theorem MapB.new (P:Program) (k e:TypeId) (W:World):MapB P k e (W.alloc (.map #[] 0)) W.heap.size 0 []:=
 ⟨.map [],⟨[],rfl⟩,World.ownsMap_made _ _ _ _,fun _=>rfl,fun _ h=>by simp at h⟩
theorem MapB.drew {P:Program} {k e:TypeId} {W:World} {b n:Nat} {T:List (Int×Bool)} (h:MapB P k e W b n T):MapB P k e W.drew b n T:=by
 obtain⟨D,h1,h2,h3,h4⟩:=h
 exact⟨D,h1,h2.drew,h3,h4⟩
theorem MapB.perm {P:Program} {k e:TypeId} {W:World} {b n:Nat} {T T':List (Int×Bool)} (h:MapB P k e W b n T) (p:T.Perm T'):MapB P k e W b n T':=by
 obtain⟨D,h1,h2,h3,h4⟩:=h
 exact⟨D,h1,h2,fun x=>(h3 x).trans (by rw[Bool.eq_iff_iff,List.any_eq_true,List.any_eq_true];simp only[p.mem_iff]),fun q hq=>h4 q (p.mem_iff.2 hq)⟩
theorem plainElem_boolInv {H:Type} {P:Program} {e:TypeId} (he:P.underlying e=some .bool) {v:Value} {z:DataW H×List MemPlace} (h:plainElem P e v=some z):∃a,v=.bool a∧z=(.lit (.bool a),[]):=by
 unfold plainElem at h
 rw[he] at h
 cases v<;>simp at h
 subst h
 exact⟨_,rfl,rfl⟩
theorem MapB.put {P:Program} {k e t:TypeId} (K:Keyed P k) (hk:P.underlying k=some (.int .i64)) (ht:P.underlying t=some (.map k e)) (he:P.underlying e=some .bool) {W:World} {b n:Nat} {T:List (Int×Bool)} (h:MapB P k e W b n T) (hn:n<1000000)
 {x:Int} {c:Bool} (hx:(Lit.int .i64 x).wf=true) (hT:∀p∈T,p.1≠x):∃W',(Instr.mapUpdate t (.map (some b)) (.int .i64 x) (.bool c)).run P W=.ok () W'∧MapB P k e W' b (n+1) ((x,c)::T)∧W.grownBy W' (some b):=by
 obtain⟨D,h1,h2,h3,h4⟩:=h
 obtain⟨W',hrun,ho,hg⟩:=h2.update K ht (by unfold maxLen;omega) (keyOf_int_mk hk hx) (plainElem_bool he c)
 refine⟨W',hrun,⟨_,h1.put _ _,ho,fun y=> ?_,fun p hp zd=> ?_⟩,hg⟩
 ·by_cases e1:y=x
  ·subst e1
   rw[has_put_same h1 (by simp[WideAt.IsKeyLit])]
   simp
  ·rw[has_put_other (by intro h;injection h with _ h;exact e1 h),h3 y]
   have e2:(x==y)=false:=by simpa using fun h=>e1 h.symm
   simp[e2]
 ·rcases List.mem_cons.1 hp with rfl|hp
  ·exact atKey_put_same h1 (by simp[WideAt.IsKeyLit]) _ _
  ·rw[atKey_put_other (by intro h;injection h with _ h;exact hT p hp h)]
   exact h4 p hp zd
theorem heldOp {P:Program} {l:List Oper} {Q:Exit→Act→World→Prop} {i:Nat} {o:Oper} {K':Act→World→Prop} {a:Act} {w:World} (hi:l[i]?=some o) (h:∀K:Exit→Act→World→Prop,Hid (∀a w,K' a w→K .normal a w)→wpList P l.toArray K [o] a w):wpOp P l.toArray Q i K' a w:=by
 have h1:=h (midQ Q K') (Lib.hid fun _ _ h=>h)
 have hw:wpOp P l.toArray (midQ Q K') i (wpList P l.toArray (midQ Q K') []) a w:=by
  unfold wpOp
  simp only[List.getElem?_toArray,hi]
  exact h1
 exact wpOp_mid hw
theorem keyI:Keyed Tryz.prog 3:=int_keyed Tryz.underlying3
section
variable {P:Program} {ops:Array Oper} {Q:Exit→Act→World→Prop} {md:Region.Mode} {S:World→Prop}
structure Ins where
 at_:Nat
 key:Int
 val:Bool
def Ins.pair (p:Ins):Int×Bool:=(p.key,p.val)
def PutsAt (ops:Array Oper) (t:TypeId) (b:Nat) (a:Act) (p:Ins):Prop:=
 ∃o m v,ops[p.at_]?=some o∧o.op=.insert t m (.const (.int .i64 p.key)) v∧o.guard=none∧o.dst=none∧a.eval m=.map (some b)∧a.eval v=.bool p.val∧(Lit.int .i64 p.key).wf=true
theorem wpOp_put {k e t:TypeId} (K:Keyed P k) (hk:P.underlying k=some (.int .i64)) (ht:P.underlying t=some (.map k e)) (he:P.underlying e=some .bool) {W:World} {b n:Nat} {T:List (Int×Bool)} (h:MapB P k e W b n T) (hn:n<1000000) {a:Act} {p:Ins}
 (hp:PutsAt ops t b a p) (hT:∀q∈T,q.1≠p.key) {K':Act→World→Prop} (hK:∀W',MapB P k e W' b (n+1) (p.pair::T)→W.grownBy W' (some b)→K' a W'):wpOp P ops Q p.at_ K' a W:=by
 obtain⟨o,m,v,ho,hop,hg,hd,hm,hv,hw⟩:=hp
 obtain⟨W',hrun,h1,h2⟩:=h.put K hk ht he hn hw hT (c:=p.val)
 unfold wpOp
 rw[ho]
 simp only[show Region.wanted o (yielded ops a.tmps)=true by simp[Region.wanted,hg],if_true]
 refine .inl ?_
 unfold Oper.wp
 have e1:(execOp a.eval o).run P W=.ok .skip W'∨(execOp a.eval o).run P W=.ok (.value undef) W':=by
  have hx:a.eval (.const (.int .i64 p.key))=.int .i64 p.key:=rfl
  simp[execOp,hop,hm,hv,hx,hrun,Result.andThen]
 rcases e1 with e1|e1
 all_goals
  rw[e1]
  simp only[Oper.upon,hd]
  exact hK W' h1 h2
theorem ins_perm {p:Ins}:∀{rem:List Ins},p∈rem→(rem.map (·.at_)).Nodup→rem.Perm (p::rem.filter fun q=>q.at_ !=p.at_)
 |[],h,_=>by simp at h
 |q::l,h,hnd=>by
  rw[List.map_cons,List.nodup_cons] at hnd
  rcases List.mem_cons.1 h with rfl|hp
  ·have hf:(p::l).filter (fun q=>q.at_ !=p.at_)=l:=by
    rw[List.filter_cons_of_neg (by simp),List.filter_eq_self]
    intro q hq
    have:q.at_≠p.at_:=fun e=>hnd.1 (List.mem_map.2 ⟨q,hq,e⟩)
    simpa using this
   rw[hf]
  ·have hne:q.at_≠p.at_:=fun e=>hnd.1 (List.mem_map.2 ⟨p,hp,e.symm⟩)
   rw[List.filter_cons_of_pos (by simpa using hne)]
   exact((ins_perm hp hnd.2).cons q).trans (List.Perm.swap _ _ _)
def putsB (md:Region.Mode) (ops:Array Oper) (rest idx:List Nat) (base:Array Bool):Bool:=
 (idx.all fun j=>rest.all fun i=>match ops[i]? with
  |some o=>o.after.any fun ed=>Region.binds md ed&&(ed.on==j||rest.contains ed.on)
  |none=>false)&&
 (idx.all fun j=>match ops[j]? with
  |some o=>o.after.all fun ed=> !idx.contains ed.on&&(base[ed.on]?).getD false
  |none=>false)&&
 ((List.range base.size).all fun i=>(base[i]?).getD true||rest.contains i)&&(idx.all fun j=>(base[j]?).getD false)
def overB (listed base:Array Bool) (idx:List Nat):Bool:=listed.size==base.size&&(List.range base.size).all (fun i=>listed[i]?==if idx.contains i then some false else base[i]?)&&idx.all (fun i=>decide (i<base.size))
theorem overB_ok {listed base:Array Bool} {rem:List Ins} {idx:List Nat} (hi:rem.map (·.at_)=idx) (h:overB listed base idx=true) (i:Nat):listed[i]?=if(rem.any (fun p=>p.at_==i))=true then some false else base[i]?:=by
 simp only[overB,Bool.and_eq_true,beq_iff_eq,List.all_eq_true,List.mem_range,decide_eq_true_eq] at h
 obtain⟨⟨h1,h2⟩,h3⟩:=h
 have e:(rem.any (fun p=>p.at_==i))=idx.contains i:=by
  rw[←hi,Bool.eq_iff_iff,List.any_eq_true,List.contains_iff_mem,List.mem_map]
  constructor
  ·rintro⟨p,hp,e⟩;exact⟨p,hp,by simpa using e⟩
  ·rintro⟨p,hp,e⟩;exact⟨p,hp,by simpa using e⟩
 rw[e]
 by_cases hlt:i<base.size
 ·exact h2 i hlt
 ·have h4:idx.contains i=false:=by
   rw[←Bool.not_eq_true,List.contains_iff_mem]
   exact fun hm=>hlt (h3 i hm)
  rw[h4,if_neg (by simp),Array.getElem?_eq_none (by omega),Array.getElem?_eq_none (by omega)]
theorem wpAnyH_puts {k e t:TypeId} (K:Keyed P k) (hk:P.underlying k=some (.int .i64)) (ht:P.underlying t=some (.map k e)) (he:P.underlying e=some .bool) {b:Nat} {a:Act} {base:Array Bool} {rest idx:List Nat} {all:List (Int×Bool)} {f:Nat}
 (hB:putsB md ops rest idx base=true) (hS:∀W W',S W→W.grownBy W' (some b)→S W') (hnd:(all.map (·.1)).Nodup)
 (hend:∀n W,MapB P k e W b n all→S W→wpAnyH P md ops Q S f base a W):
 ∀(m n:Nat) (rem:List Ins) (listed:Array Bool) (T:List (Int×Bool)) (W:World),rem.length=m→n+m<1000000→(∀p∈rem,PutsAt ops t b a p)→(∀p∈rem,p.at_∈idx)→
  (∀i∈rest,listed[i]?=some false)→(rem.map (·.at_)).Nodup→
  (∀i:Nat,listed[i]?=if(rem.any (fun p=>p.at_==i))=true then some false else base[i]?)→(T++rem.map Ins.pair).Perm all→MapB P k e W b n T→S W→wpAnyH P md ops Q S (m+f) listed a W
 |0,n,rem,listed,T,W,hl,hn,hput,hidx,hrest,hnd',hL,hperm,hT,hSW=>by
  obtain rfl:rem=[]:=List.eq_nil_of_length_eq_zero hl
  rw[Nat.zero_add]
  have e1:listed=base:=by
   apply Array.ext_getElem?
   intro i
   simpa using hL i
  subst e1
  exact hend n W (hT.perm (by simpa using hperm)) hSW
 |m+1,n,rem,listed,T,W,hl,hn,hput,hidx,hrest,hnd',hL,hperm,hT,hSW=>by
  have hB':=hB
  simp only[putsB,Bool.and_eq_true,List.all_eq_true] at hB'
  obtain⟨⟨⟨hB1,hB2⟩,hB3⟩,hB4⟩:=hB'
  obtain⟨p0,hp0⟩:∃p,p∈rem:=by
   cases rem with
   |nil=>simp at hl
   |cons p _=>exact⟨p,by simp⟩
  rw[show m+1+f=(m+f)+1 by omega]
  have hun:∀p∈rem,listed[p.at_]?=some false:=fun p hp=>by
   rw[hL,if_pos (List.any_eq_true.2 ⟨p,hp,by simp⟩)]
  have hget:∀(i:Nat) (v d:Bool),listed[i]?=some v→listed.getD i d=v:=fun i v d h=>by simp[Array.getD_eq_getD_getElem?,h]
  have hin:∀i∈Region.ready md ops listed,∃p∈rem,p.at_=i:=fun i hi=>by
   obtain⟨h1,o,ho,hall⟩:=mem_ready.1 hi
   by_cases hr:(rem.any (fun p=>p.at_==i))=true
   ·obtain⟨p,hp,e⟩:=List.any_eq_true.1 hr
    exact⟨p,hp,by simpa using e⟩
   ·exfalso
    have h2:=hL i
    rw[if_neg hr] at h2
    have h3:base[i]?=some false:=by
     rw[←h2]
     cases hli:listed[i]? with
     |none=>
      have:listed.getD i true=true:=by simp[Array.getD_eq_getD_getElem?,hli]
      rw[this] at h1;cases h1
     |some v=>rw[hget i v true hli] at h1;rw[h1]
    have hri:i∈rest:=by
     have h4:=hB3 i (List.mem_range.2 (Array.getElem?_eq_some_iff.1 h3).1)
     rw[h3] at h4
     simpa using h4
    have h4:=hB1 p0.at_ (hidx p0 hp0)
    have h5:=h4 i hri
    rw[ho] at h5
    simp only[Array.any_eq_true',Bool.and_eq_true,Bool.or_eq_true,beq_iff_eq,List.contains_iff_mem] at h5
    obtain⟨ed,hed,hbd,hon⟩:=h5
    have h6:=hall ed hed hbd
    have h7:listed[ed.on]?=some false:=by
     rcases hon with e|e
     ·rw[e];exact hun p0 hp0
     ·exact hrest _ e
    rw[hget _ _ false h7] at h6
    cases h6
  have hready:p0.at_∈Region.ready md ops listed:=by
   refine mem_ready.2 ⟨hget _ _ _ (hun p0 hp0), ?_⟩
   obtain⟨o,_,_,ho,_⟩:=hput p0 hp0
   refine⟨o,ho,fun ed hed _=> ?_⟩
   have h4:=hB2 p0.at_ (hidx p0 hp0)
   rw[ho] at h4
   simp only[Array.all_eq_true',Bool.and_eq_true,Bool.not_eq_true'] at h4
   obtain⟨h5,h6⟩:=h4 ed hed
   have h7:(rem.any (fun p=>p.at_==ed.on))=false:=by
    rw[List.any_eq_false]
    intro p hp
    have:=hidx p hp
    simp only[beq_iff_eq]
    intro e
    rw[e] at this
    have h8:idx.contains ed.on=true:=by simpa using this
    rw[h8] at h5
    cases h5
   have h8:=hL ed.on
   rw[if_neg (by rw[h7];simp)] at h8
   cases hbe:base[ed.on]? with
   |none=>rw[hbe] at h6;cases h6
   |some v=>
    rw[hbe] at h6 h8
    simp only[Option.getD_some] at h6
    rw[h6] at h8
    exact hget _ _ _ h8
  refine⟨fun h0=>by rw[h0] at hready;simp at hready,fun i hi=> ?_⟩
  obtain⟨p,hp,rfl⟩:=hin i hi
  have hfp:=ins_perm hp hnd'
  have hpm:(p.pair::T++(rem.filter fun q=>q.at_ !=p.at_).map Ins.pair).Perm all:=by
   refine List.Perm.trans ?_ hperm
   refine List.Perm.trans ?_ ((hfp.map Ins.pair).symm.append_left T)
   rw[List.map_cons]
   exact(List.perm_middle (a:=p.pair) (l₁:=T)).symm
  refine wpOp_put K hk ht he hT (by omega) (hput p hp) (fun q hq e=> ?_) fun W' hM hg=> ?_
  ·have h1:((p.pair::T++(rem.filter fun q=>q.at_ !=p.at_).map Ins.pair).map (·.1)).Nodup:=(hpm.map (·.1)).nodup_iff.2 hnd
   simp only[List.cons_append,List.map_cons,List.nodup_cons] at h1
   exact h1.1 (List.mem_map.2 ⟨q,List.mem_append_left _ hq,e⟩)
  ·have hsz:listed.size≤p.at_→False:=fun h=>by
    have:=hun p hp
    rw[Array.getElem?_eq_none h] at this
    cases this
   refine⟨hS W W' hSW hg,wpAnyH_puts K hk ht he hB hS hnd hend m (n+1) (rem.filter fun q=>q.at_ !=p.at_) _ (p.pair::T) W' ?_ (by omega) (fun q hq=>hput q (List.mem_filter.1 hq).1) (fun q hq=>hidx q (List.mem_filter.1 hq).1) (fun i hi=> ?_) ?_ (fun i=> ?_) hpm hM (hS W W' hSW hg)⟩
   ·have:=hfp.length_eq
    rw[List.length_cons] at this
    omega
   ·have h1:=hrest i hi
    rw[Array.getElem?_setIfInBounds]
    split
    ·rename_i e
     subst e
     exfalso
     have h2:=hB1 p.at_ (hidx p hp) p.at_ hi
     have h3:=hB4 p.at_ (hidx p hp)
     have h4:=hB2 p.at_ (hidx p hp)
     obtain⟨o,_,_,ho,_⟩:=hput p hp
     rw[ho] at h2 h4
     simp only[Array.any_eq_true',Bool.and_eq_true,Bool.or_eq_true,beq_iff_eq,List.contains_iff_mem] at h2
     simp only[Array.all_eq_true',Bool.and_eq_true,Bool.not_eq_true'] at h4
     obtain⟨ed,hed,_,hon⟩:=h2
     obtain⟨h5,h6⟩:=h4 ed hed
     rcases hon with e|e
     ·have:idx.contains ed.on=true:=by rw[e];simpa using hidx p hp
      rw[this] at h5;cases h5
     ·have h7:=hrest _ e
      have h8:(rem.any (fun q=>q.at_==ed.on))=false:=by
       rw[List.any_eq_false]
       intro q hq
       simp only[beq_iff_eq]
       intro e'
       have h9:idx.contains ed.on=true:=by rw[←e'];simpa using hidx q hq
       rw[h9] at h5
       cases h5
      have h9:=hL ed.on
      rw[if_neg (by rw[h8];simp),h7] at h9
      rw[←h9] at h6
      cases h6
    ·exact h1
   ·exact List.Nodup.sublist (List.Sublist.map _ (List.filter_sublist)) hnd'
   ·rw[Array.getElem?_setIfInBounds]
    split
    ·rename_i e
     subst e
     have h3:=hB4 p.at_ (hidx p hp)
     rw[if_pos (Nat.lt_of_not_le hsz),if_neg (by
      rw[Bool.not_eq_true,List.any_eq_false]
      intro q hq
      have:=(List.mem_filter.1 hq).2
      simpa using this)]
     cases hbe:base[p.at_]? with
     |none=>rw[hbe] at h3;cases h3
     |some v=>rw[hbe] at h3;simp only[Option.getD_some] at h3;rw[h3]
    ·rename_i e
     rw[hL i]
     congr 1
     rw[eq_iff_iff,List.any_eq_true,List.any_eq_true]
     constructor
     ·rintro⟨q,hq,hqe⟩
      have hqe':q.at_=i:=by simpa using hqe
      exact⟨q,List.mem_filter.2 ⟨hq,by simp;omega⟩,hqe⟩
     ·rintro⟨q,hq,hqe⟩
      exact⟨q,(List.mem_filter.1 hq).1,hqe⟩
end
structure StepB where
 x:Int
 c:Bool
 w:World
 cnt:Nat
structure StepB.Ok (P:Program) (k e:TypeId) (W:World) (b r n:Nat) (D:DataW Unit) (left:Lit→Bool) (cnt:Nat) (s:StepB):Prop where
 was:left (.int .i64 s.x)=true
 has:Maps.has D (.int .i64 s.x)=true
 at_:∀zd,D.atKey (.int .i64 s.x) zd=.lit (.bool s.c)
 now:s.w.ranges P k (plainElem P e) b r n D (fun z=>left z&& !z.sameKey (.int .i64 s.x)) s.cnt
 lt:s.w.rangeLeft b r<W.rangeLeft b r
 grown:W.grownBy s.w (some r)
 entry:(Instr.entry (.pointer (some ⟨r,0,none⟩))).run P s.w=.ok (.tuple #[.int .i64 s.x,.bool s.c]) s.w
theorem wpList_next_b {P:Program} (w:World) {ops:Array Oper} {rest:List Oper} {o:Oper} {a:Act} {Q:Exit→Act→World→Prop} (hg:o.guard=none) (it:Operand) (hop:o.op=Op.next it false) (k e:TypeId) (K:Keyed P k) (hk:P.underlying k=some (.int .i64)) (he:P.underlying e=some .bool)
 (b r n:Nat) (D:DataW Unit) (left:Lit→Bool) (cnt:Nat) (hit:a.eval it=.pointer (some ⟨r,0,none⟩)) (h:w.ranges P k (plainElem P e) b r n D left cnt)
 (hDone:Hid (∀kl,left kl=false)→wpList P ops Q rest (a.put o.dst (.tuple #[.bool false])) w)
 (hMore:∀s:StepB,s.Ok P k e w b r n D left cnt→wpList P ops Q rest (a.put o.dst (.tuple #[.bool true,.int .i64 s.x,.bool s.c])) s.w):
 wpList P ops Q (o::rest) a w:=
 wpList_next_ranges w hg it hop k K (plainElem P e) (Value.int .i64) Value.bool (fun key kl hkey=>by obtain⟨x,rfl,_⟩:=Maps.keyOf_int_inv hk hkey;exact⟨x,rfl⟩) (fun v y hv=>by obtain⟨c,rfl,_⟩:=plainElem_boolInv he hv;exact⟨c,rfl⟩)
  b r n D left cnt hit h (fun _ hl=>hDone (Lib.hid hl)) (fun x c kl y w' cnt' hkey hlk hv hat hrg hlt hgr hsz hen=>by
   obtain⟨x',ex,rfl,hwx⟩:=Maps.keyOf_int_inv hk hkey
   cases ex
   obtain⟨c',ec,rfl⟩:=plainElem_boolInv he hv
   cases ec
   exact hMore ⟨x,c,w',cnt'⟩ ⟨hlk,has_true_of_atKey hat,hat,hrg,by rw[hrg.left_eq,h.left_eq];exact hlt,hgr,hen⟩)
end Go.Proofs.YtlckmjiioohcmaaGreatDoor
namespace Go.Proofs.YtlckmjiioohcmaaGreatDoor
open Go.RowKit Go.Maps
def usesL:List Int:=[0,1,7,27,7,7,99,67,7,64,11,11,128]
def usesK (k:Int):Int:=usesL.getD k.toNat 0
def hS (c0 c1 c2 c3 c4 c5 c6 c7:Bool):Int:=(if c0 then 1 else 0)+(if c1 then 2 else 0)+(if c2 then 4 else 0)+(if c3 then 8 else 0)+(if c4 then 16 else 0)+(if c5 then 32 else 0)+(if c6 then 64 else 0)+(if c7 then 128 else 0)
def hasM (op:MOp):Int:=hS (op.owner !=0) (op.till !=0) (op.seat !=0) (op.section_ !=0) (op.n !=0) (op.to !=0) (op.tk !=noTk) (op.now !=0)
def plCheckM (op:MOp):Int:=if op.kind<1∨12<op.kind then 2 else if bits .andNot .i64 (hasM op) (usesK op.kind)≠0 then 2 else 0
theorem or_0:∀c1 c2 c3 c4 c5 c6 c7,bits .or .i64 (hS false c1 c2 c3 c4 c5 c6 c7) 1=hS true c1 c2 c3 c4 c5 c6 c7:=by decide+kernel
theorem or_1:∀c0 c2 c3 c4 c5 c6 c7,bits .or .i64 (hS c0 false c2 c3 c4 c5 c6 c7) 2=hS c0 true c2 c3 c4 c5 c6 c7:=by decide+kernel
theorem or_2:∀c0 c1 c3 c4 c5 c6 c7,bits .or .i64 (hS c0 c1 false c3 c4 c5 c6 c7) 4=hS c0 c1 true c3 c4 c5 c6 c7:=by decide+kernel
theorem or_3:∀c0 c1 c2 c4 c5 c6 c7,bits .or .i64 (hS c0 c1 c2 false c4 c5 c6 c7) 8=hS c0 c1 c2 true c4 c5 c6 c7:=by decide+kernel
theorem or_4:∀c0 c1 c2 c3 c5 c6 c7,bits .or .i64 (hS c0 c1 c2 c3 false c5 c6 c7) 16=hS c0 c1 c2 c3 true c5 c6 c7:=by decide+kernel
theorem or_5:∀c0 c1 c2 c3 c4 c6 c7,bits .or .i64 (hS c0 c1 c2 c3 c4 false c6 c7) 32=hS c0 c1 c2 c3 c4 true c6 c7:=by decide+kernel
theorem or_6:∀c0 c1 c2 c3 c4 c5 c7,bits .or .i64 (hS c0 c1 c2 c3 c4 c5 false c7) 64=hS c0 c1 c2 c3 c4 c5 true c7:=by decide+kernel
theorem or_7:∀c0 c1 c2 c3 c4 c5 c6,bits .or .i64 (hS c0 c1 c2 c3 c4 c5 c6 false) 128=hS c0 c1 c2 c3 c4 c5 c6 true:=by decide+kernel
def HasR (b0 b1 b2 b3 b4 b5 b6 b7:Bool) (left:Lit→Bool) (h:Int):Prop:=
 h=hS (!left (.int .i64 1)&&b0) (!left (.int .i64 2)&&b1) (!left (.int .i64 4)&&b2) (!left (.int .i64 8)&&b3) (!left (.int .i64 16)&&b4) (!left (.int .i64 32)&&b5) (!left (.int .i64 64)&&b6) (!left (.int .i64 128)&&b7)
theorem HasR.step {b0 b1 b2 b3 b4 b5 b6 b7:Bool} {left:Lit→Bool} {h x:Int} {c:Bool} (H:HasR b0 b1 b2 b3 b4 b5 b6 b7 left h) (hl:left (.int .i64 x)=true)
 (hx:(x,c)∈[((1:Int),b0),(2,b1),(4,b2),(8,b3),(16,b4),(32,b5),(64,b6),(128,b7)]):
 HasR b0 b1 b2 b3 b4 b5 b6 b7 (fun z=>left z&& !z.sameKey (.int .i64 x)) (if c then bits .or .i64 h x else h):=by
 unfold HasR at H⊢
 subst H
 simp only[List.mem_cons,List.not_mem_nil,or_false,Prod.mk.injEq] at hx
 rcases hx with⟨rfl,rfl⟩|⟨rfl,rfl⟩|⟨rfl,rfl⟩|⟨rfl,rfl⟩|⟨rfl,rfl⟩|⟨rfl,rfl⟩|⟨rfl,rfl⟩|⟨rfl,rfl⟩
 all_goals
  simp only[hl,Bool.not_true,Bool.false_and,Lit.sameKey,Bool.true_and]
  cases c<;>simp[or_0,or_1,or_2,or_3,or_4,or_5,or_6,or_7]
theorem HasR.done {b0 b1 b2 b3 b4 b5 b6 b7:Bool} {left:Lit→Bool} {h:Int} (H:HasR b0 b1 b2 b3 b4 b5 b6 b7 left h) (hl:∀k,left k=false):h=hS b0 b1 b2 b3 b4 b5 b6 b7:=by
 unfold HasR at H
 rw[H]
 simp[hl]
theorem HasR.start (b0 b1 b2 b3 b4 b5 b6 b7:Bool) {left:Lit→Bool} (hl:left (.int .i64 1)=true∧left (.int .i64 2)=true∧left (.int .i64 4)=true∧left (.int .i64 8)=true∧left (.int .i64 16)=true∧left (.int .i64 32)=true∧left (.int .i64 64)=true∧left (.int .i64 128)=true):HasR b0 b1 b2 b3 b4 b5 b6 b7 left 0:=by
 unfold HasR
 obtain⟨h0,h1,h2,h3,h4,h5,h6,h7⟩:=hl
 simp[h0,h1,h2,h3,h4,h5,h6,h7,hS]
end Go.Proofs.YtlckmjiioohcmaaGreatDoor
namespace Go.Proofs.YtlckmjiioohcmaaGreatDoor
open Go.RowKit
def UsesAt (w:World):Prop:=0<w.heap.size∧∀(k:Nat) (u:Int),usesL[k]?=some u→w.cell? ⟨0,k,none⟩=some (.int .i64 u)
theorem UsesAt.up {w w':World} {B:Nat} (h:UsesAt w) (hb:Below B w w') (hB:0<B):UsesAt w':=
 ⟨Nat.lt_of_lt_of_le h.1 hb.size,fun k u hu=>by
  have h1:=h.2 k u hu
  exact(hb.cell (p:=⟨0,k,none⟩) hB).trans h1⟩
theorem tk_ne {α:Type} (t:Tk) (r:Bool→α):(if t.seat=0 then if t.owner=0 then if t.serial=0 then if t.epoch=0 then r false else r true else r true else r true else r true)=r (t !=noTk):=by
 obtain⟨a,b,c,d⟩:=t
 have e:((⟨a,b,c,d⟩:Tk) !=noTk)= !decide (a=0∧b=0∧c=0∧d=0):=by
  show(!decide ((⟨a,b,c,d⟩:Tk)=noTk))=_
  simp[noTk]
 rw[e]
 by_cases h1:a=0<;>by_cases h2:b=0<;>by_cases h3:c=0<;>by_cases h4:d=0<;>simp[h1,h2,h3,h4]
set_option maxHeartbeats 4000000 in
set_option maxRecDepth 20000 in
theorem plCheck_any (op:MOp) (w:World) (hu:UsesAt w):
 Calls Tryz.prog 92 #[.agg (opCells op).toArray] w fun e w'=>e=.returned (.int .i64 (plCheckM op))∧Below w.heap.size w w':=by
 have hM:=Lib.hid (show plCheckM op=if op.kind<1∨12<op.kind then 2 else if bits .andNot .i64 (hasM op) (usesK op.kind)≠0 then 2 else 0 from rfl)
 generalize plCheckM op=M at hM⊢
 unfold opCells
 by_cases h1:op.kind<1
 ·rw[if_pos (.inl h1)] at hM
  go_enter Tryz.func92,Tryz.ntmps92
  go_wp2_with fail
  go_ret
  exact⟨by rw[hM.out];rfl,ba _ _⟩
 ·by_cases h2:12<op.kind
  ·rw[if_pos (.inr h2)] at hM
   go_enter Tryz.func92,Tryz.ntmps92
   go_wp2_with fail
   go_ret
   exact⟨by rw[hM.out];rfl,ba _ _⟩
  ·rw[if_neg (by omega)] at hM
   go_enter Tryz.func92,Tryz.ntmps92
   go_upto_region 4 with fail
   refine at_world (fun X=>Below w.heap.size w X∧BoxN X w.heap.size 46 (opCells op).toArray) ⟨ba _ _,BoxN.new _ _ _⟩ fun w1 hw1=> ?_
   obtain⟨hb1,p1⟩:=hw1
   have hU1:=hu.up hb1 hu.1
   have HBQ:=Lib.hid hb1
   clear hb1 hu
   generalize hqw:w.heap.size=q at p1 HBQ⊢
   refine wp_region_held (S:=fun X=>Below w1.heap.size w1 X) (by kernel_rfl) ?_
   have HS:Below w1.heap.size w1 w1.drew:=bdd (Below.refl _ _)
   refine wpAnyH_take (i:=1) (v:=.pointer (some ⟨q,1,none⟩)) rfl (by kernel_rfl) (by kernel_rfl) (by kernel_rfl) (fun _ _ _ h=>h) (.inl ⟨rfl,fun W _=>by go_simp⟩) HS ?_
   have e0:=p1.cell 1 (.int .u32 op.owner) rfl
   refine wpAnyH_take (i:=2) (v:=.int .u32 op.owner) rfl (by kernel_rfl) (by kernel_rfl) (by kernel_rfl) (fun _ _ _ h=>h) (.inl ⟨rfl,fun W hb=>by have c:=cell_later hb e0;go_simp⟩) HS ?_
   refine wpAnyH_take (i:=3) (v:=.bool (op.owner !=0)) rfl (by kernel_rfl) (by kernel_rfl) (by kernel_rfl) (fun _ _ _ h=>h) (.inl ⟨rfl,fun W hb=>by go_simp⟩) HS ?_
   refine wpAnyH_take (i:=5) (v:=.pointer (some ⟨q,2,none⟩)) rfl (by kernel_rfl) (by kernel_rfl) (by kernel_rfl) (fun _ _ _ h=>h) (.inl ⟨rfl,fun W _=>by go_simp⟩) HS ?_
   have e1:=p1.cell 2 (.int .i64 op.till) rfl
   refine wpAnyH_take (i:=6) (v:=.int .i64 op.till) rfl (by kernel_rfl) (by kernel_rfl) (by kernel_rfl) (fun _ _ _ h=>h) (.inl ⟨rfl,fun W hb=>by have c:=cell_later hb e1;go_simp⟩) HS ?_
   refine wpAnyH_take (i:=7) (v:=.bool (op.till !=0)) rfl (by kernel_rfl) (by kernel_rfl) (by kernel_rfl) (fun _ _ _ h=>h) (.inl ⟨rfl,fun W hb=>by go_simp⟩) HS ?_
   refine wpAnyH_take (i:=9) (v:=.pointer (some ⟨q,3,none⟩)) rfl (by kernel_rfl) (by kernel_rfl) (by kernel_rfl) (fun _ _ _ h=>h) (.inl ⟨rfl,fun W _=>by go_simp⟩) HS ?_
   have e2:=p1.cell 3 (.int .i64 op.seat) rfl
   refine wpAnyH_take (i:=10) (v:=.int .i64 op.seat) rfl (by kernel_rfl) (by kernel_rfl) (by kernel_rfl) (fun _ _ _ h=>h) (.inl ⟨rfl,fun W hb=>by have c:=cell_later hb e2;go_simp⟩) HS ?_
   refine wpAnyH_take (i:=11) (v:=.bool (op.seat !=0)) rfl (by kernel_rfl) (by kernel_rfl) (by kernel_rfl) (fun _ _ _ h=>h) (.inl ⟨rfl,fun W hb=>by go_simp⟩) HS ?_
   refine wpAnyH_take (i:=13) (v:=.pointer (some ⟨q,4,none⟩)) rfl (by kernel_rfl) (by kernel_rfl) (by kernel_rfl) (fun _ _ _ h=>h) (.inl ⟨rfl,fun W _=>by go_simp⟩) HS ?_
   have e3:=p1.cell 4 (.int .i64 op.section_) rfl
   refine wpAnyH_take (i:=14) (v:=.int .i64 op.section_) rfl (by kernel_rfl) (by kernel_rfl) (by kernel_rfl) (fun _ _ _ h=>h) (.inl ⟨rfl,fun W hb=>by have c:=cell_later hb e3;go_simp⟩) HS ?_
   refine wpAnyH_take (i:=15) (v:=.bool (op.section_ !=0)) rfl (by kernel_rfl) (by kernel_rfl) (by kernel_rfl) (fun _ _ _ h=>h) (.inl ⟨rfl,fun W hb=>by go_simp⟩) HS ?_
   refine wpAnyH_take (i:=17) (v:=.pointer (some ⟨q,5,none⟩)) rfl (by kernel_rfl) (by kernel_rfl) (by kernel_rfl) (fun _ _ _ h=>h) (.inl ⟨rfl,fun W _=>by go_simp⟩) HS ?_
   have e4:=p1.cell 5 (.int .i64 op.n) rfl
   refine wpAnyH_take (i:=18) (v:=.int .i64 op.n) rfl (by kernel_rfl) (by kernel_rfl) (by kernel_rfl) (fun _ _ _ h=>h) (.inl ⟨rfl,fun W hb=>by have c:=cell_later hb e4;go_simp⟩) HS ?_
   refine wpAnyH_take (i:=19) (v:=.bool (op.n !=0)) rfl (by kernel_rfl) (by kernel_rfl) (by kernel_rfl) (fun _ _ _ h=>h) (.inl ⟨rfl,fun W hb=>by go_simp⟩) HS ?_
   refine wpAnyH_take (i:=21) (v:=.pointer (some ⟨q,6,none⟩)) rfl (by kernel_rfl) (by kernel_rfl) (by kernel_rfl) (fun _ _ _ h=>h) (.inl ⟨rfl,fun W _=>by go_simp⟩) HS ?_
   have e5:=p1.cell 6 (.int .u32 op.to) rfl
   refine wpAnyH_take (i:=22) (v:=.int .u32 op.to) rfl (by kernel_rfl) (by kernel_rfl) (by kernel_rfl) (fun _ _ _ h=>h) (.inl ⟨rfl,fun W hb=>by have c:=cell_later hb e5;go_simp⟩) HS ?_
   refine wpAnyH_take (i:=23) (v:=.bool (op.to !=0)) rfl (by kernel_rfl) (by kernel_rfl) (by kernel_rfl) (fun _ _ _ h=>h) (.inl ⟨rfl,fun W hb=>by go_simp⟩) HS ?_
   refine wpAnyH_take (i:=25) (v:=.pointer (some ⟨q,7,none⟩)) rfl (by kernel_rfl) (by kernel_rfl) (by kernel_rfl) (fun _ _ _ h=>h) (.inl ⟨rfl,fun W _=>by go_simp⟩) HS ?_
   have t0:=p1.cell 7 (.int .u32 op.tk.seat) rfl
   have t1:=p1.cell 8 (.int .u32 op.tk.owner) rfl
   have t2:=p1.cell 9 (.int .u64 op.tk.serial) rfl
   have t3:=p1.cell 10 (.int .u64 op.tk.epoch) rfl
   refine wpAnyH_take (i:=26) (v:=.agg #[.int .u32 op.tk.seat,.int .u32 op.tk.owner,.int .u64 op.tk.serial,.int .u64 op.tk.epoch]) rfl (by kernel_rfl) (by kernel_rfl) (by kernel_rfl) (fun _ _ _ h=>h) (.inl ⟨rfl,fun W hb=>by have c0:=cell_later hb t0;have c1:=cell_later hb t1;have c2:=cell_later hb t2;have c3:=cell_later hb t3;go_simp⟩) HS ?_
   refine wpAnyH_take (i:=27) (v:=.agg #[.int .u32 0,.int .u32 0,.int .u64 0,.int .u64 0]) rfl (by kernel_rfl) (by kernel_rfl) (by kernel_rfl) (fun _ _ _ h=>h) (.inl ⟨rfl,fun W hb=>by go_simp⟩) HS ?_
   refine wpAnyH_take (i:=28) (v:=.bool (op.tk !=noTk)) rfl (by kernel_rfl) (by kernel_rfl) (by kernel_rfl) (fun _ _ _ h=>h) (.inl ⟨rfl,fun W hb=>by go_simp;exact tk_ne op.tk (fun b=>Result.ok (Next.value (Value.bool b)) W)⟩) HS ?_
   refine wpAnyH_take (i:=30) (v:=.pointer (some ⟨q,11,none⟩)) rfl (by kernel_rfl) (by kernel_rfl) (by kernel_rfl) (fun _ _ _ h=>h) (.inl ⟨rfl,fun W _=>by go_simp⟩) HS ?_
   have e7:=p1.cell 11 (.int .i64 op.now) rfl
   refine wpAnyH_take (i:=31) (v:=.int .i64 op.now) rfl (by kernel_rfl) (by kernel_rfl) (by kernel_rfl) (fun _ _ _ h=>h) (.inl ⟨rfl,fun W hb=>by have c:=cell_later hb e7;go_simp⟩) HS ?_
   refine wpAnyH_take (i:=32) (v:=.bool (op.now !=0)) rfl (by kernel_rfl) (by kernel_rfl) (by kernel_rfl) (fun _ _ _ h=>h) (.inl ⟨rfl,fun W hb=>by go_simp⟩) HS ?_
   refine wpAnyH_all (rs:=[0]) (by kernel_rfl) (by simp) fun j hj=> ?_
   obtain rfl:j=0:=by simpa using hj
   clear hj
   refine heldOp rfl fun K hK=> ?_
   have hmm:= @run_makeMap Tryz.prog
   go_wp2_with fail
   refine hK.out _ _ ⟨bdd (ba _ _), ?_⟩
   clear hK K
   have HM0:=(MapB.new Tryz.prog 3 4 w1).drew
   have HS0:Below w1.heap.size w1 (w1.alloc (.map #[] 0)).drew:=bdd (ba _ _)
   generalize(w1.alloc (.map #[] 0)).drew=w2 at HM0 HS0⊢
   have hz0:w1.heap.size≤w1.heap.size:=Nat.le_refl _
   generalize hmb:w1.heap.size=mb at HM0 HS0⊢
   refine wpAnyH_puts (P:=Tryz.prog) (md:=.any) (S:=fun X=>Below mb w1 X) (t:=183) (k:=3) (e:=4) (base:=#[true,true,true,true,true,true,true,true,true,true,true,true,true,true,true,true,true,true,true,true,true,true,true,true,true,true,true,true,true,true,true,true,true,true,false,false]) (rest:=[34,35]) (idx:=[4,8,12,16,20,24,29,33]) (all:=[((1:Int),op.owner !=0),((2:Int),op.till !=0),((4:Int),op.seat !=0),((8:Int),op.section_ !=0),((16:Int),op.n !=0),((32:Int),op.to !=0),((64:Int),op.tk !=noTk),((128:Int),op.now !=0)]) (f:=2) (b:=mb) keyI Tryz.underlying3 Tryz.underlying183 Tryz.underlying4 (by kernel_rfl) (fun W W' h1 h2=>h1.grown h2 (by have:=h1.size;omega) (fun z hz=>by injection hz with hz;omega)) (by simp) (fun n W hM hS=> ?_) 8 0 [⟨4,1,op.owner !=0⟩,⟨8,2,op.till !=0⟩,⟨12,4,op.seat !=0⟩,⟨16,8,op.section_ !=0⟩,⟨20,16,op.n !=0⟩,⟨24,32,op.to !=0⟩,⟨29,64,op.tk !=noTk⟩,⟨33,128,op.now !=0⟩] _ [] w2 rfl (by omega) ?_ (by simp) ?_ (by simp) (overB_ok (idx:=[4,8,12,16,20,24,29,33]) rfl ?_) (by simp[Ins.pair]) HM0 HS0
   ·obtain⟨D,hmap,hown,hhas,hat⟩:=hM
    have HS3:=Lib.hid hS
    have HHAS:=Lib.hid hhas
    have HAT:=Lib.hid hat
    clear hS hhas hat hmap
    refine wpAnyH_all (rs:=[34]) (by kernel_rfl) (by simp) fun j hj=> ?_
    obtain rfl:j=34:=by simpa using hj
    clear hj
    refine heldOp rfl fun K hK=> ?_
    go_wp2_with fail
    refine hK.out _ _ ⟨HS3.out, ?_⟩
    clear hK K
    refine wpAnyH_all (rs:=[35]) (by kernel_rfl) (by simp) fun j hj=> ?_
    obtain rfl:j=35:=by simpa using hj
    clear hj
    refine heldOp rfl fun K hK=> ?_
    refine wpList_range_own W rfl (.tmp 40) 183 rfl 3 4 keyI Tryz.underlying183 _ mb n D rfl hown ?_
    intro w3 hrg0 hg0 hs0
    refine hK.out _ _ ⟨HS3.out.grown hg0 (by have:=HS3.out.size;omega) (fun z hz=>by cases hz), ?_⟩
    clear hK K
    have HB3:=Lib.hid (show Below mb w1 w3 from HS3.out.grown hg0 (by have:=HS3.out.size;omega) (fun z hz=>by cases hz))
    have HRG:=Lib.hid hrg0
    have HSZ:=Lib.hid HS3.out.size
    clear hrg0 hg0 hs0 hown HS3 HS0 HM0
    have hrb:mb≤W.heap.size:=by have:=HSZ.out;omega
    generalize W.heap.size=r at HRG hrb⊢
    clear HSZ W
    refine wpAnyH_done (by kernel_rfl) ?_ _
    go_frame
    go_wp2_with fail
    go_loopw [3] (fun t wr=> ∃(left:Lit→Bool) (cnt:Nat) (h:Int),t=.int .i64 h∧Hid (wr.ranges Tryz.prog 3 (plainElem Tryz.prog 4) mb r n D left cnt∧Below mb w1 wr∧HasR (op.owner !=0) (op.till !=0) (op.seat !=0) (op.section_ !=0) (op.n !=0) (op.to !=0) (op.tk !=noTk) (op.now !=0) left h)) (fun _ wr=>wr.rangeLeft mb r)
    case atStart=>
     exact⟨_,_,0,rfl,HRG.out,HB3.out,HasR.start _ _ _ _ _ _ _ _ (by refine⟨?_, ?_, ?_, ?_, ?_, ?_, ?_, ?_⟩<;>(rw[HHAS.out];simp))⟩
    case round=>
     obtain⟨left,cnt,h,rfl,hr⟩:=hrel
     have HR:=Lib.hid hr
     clear hr
     go_wp2_with (first|(at_next;refine wpList_next_b _ rfl _ rfl 3 4 keyI Tryz.underlying3 Tryz.underlying4 mb r n D left cnt rfl HR.out.1 ?_ ?_))
     ·intro hl0
      have hh:h=hasM op:=HR.out.2.2.done hl0.out
      have hB:Below mb w1 wr:=HR.out.2.1
      have p2:=p1.later (by rw[hmb];exact hB)
      have hU2:=hU1.up hB (by have:=hU1.1;omega)
      have HBW:=Lib.hid (HBQ.out.trans (hB.mono (by have:=HBQ.out.size;omega)))
      obtain⟨kk,hkk⟩:∃kk:Nat,op.kind=(kk:Int):=⟨op.kind.toNat,by omega⟩
      have hk13:kk<13:=by omega
      have cu:=hU2.2 kk (usesK op.kind) (by
       have hl:kk<usesL.length:=hk13
       simp[usesK,hkk,hl])
      have c0:=p2.cell 0 (.int .i64 op.kind) rfl
      rw[hkk] at c0
      have zq:=p2.lt
      have z0:=hU2.1
      have hk0:(0:Int)≤(kk:Int):=by omega
      have hk1:(kk:Int)<13:=by omega
      rw[←hh] at hM
      generalize usesK op.kind=u at cu hM
      clear HR hl0 hB p2 hU2 hh hkk hk13 h1 h2
      by_cases hz:bits .andNot .i64 h u=0
      ·have t:(bits .andNot .i64 h u !=0)=false:=by simpa using hz
       rw[if_neg (by simpa using hz)] at hM
       clear hz
       go_wp2_with fail
       go_ret
       exact⟨by rw[hM.out];rfl,by rw[hqw];exact HBW.out⟩
      ·have t:(bits .andNot .i64 h u !=0)=true:=by simpa using hz
       rw[if_pos hz] at hM
       clear hz
       go_wp2_with fail
       go_ret
       exact⟨by rw[hM.out];rfl,by rw[hqw];exact HBW.out⟩
     ·intro st hst
      obtain⟨x,c,w4,cnt1⟩:=st
      have hmem:(x,c)∈[((1:Int),op.owner !=0),((2:Int),op.till !=0),((4:Int),op.seat !=0),((8:Int),op.section_ !=0),((16:Int),op.n !=0),((32:Int),op.to !=0),((64:Int),op.tk !=noTk),((128:Int),op.now !=0)]:=by
       have h5:=hst.has
       rw[HHAS.out,List.any_eq_true] at h5
       obtain⟨p,hp,hpe⟩:=h5
       have hpe':p.1=x:=by simpa using hpe
       have h6:=HAT.out p hp .nil
       rw[hpe'] at h6
       have h7:=h6.symm.trans (hst.at_ .nil)
       injection h7 with h7
       injection h7 with h7
       obtain⟨p1',p2'⟩:=p
       simp only at hpe' h7
       subst hpe' h7
       exact hp
      have hen:=hst.entry
      simp only at hen
      have HN:=Lib.hid (show w4.ranges Tryz.prog 3 (plainElem Tryz.prog 4) mb r n D (fun z=>left z&& !z.sameKey (.int .i64 x)) cnt1∧Below mb w1 w4∧HasR (op.owner !=0) (op.till !=0) (op.seat !=0) (op.section_ !=0) (op.n !=0) (op.to !=0) (op.tk !=noTk) (op.now !=0) (fun z=>left z&& !z.sameKey (.int .i64 x)) (if c then bits .or .i64 h x else h) from
       ⟨hst.now,HR.out.2.1.grown hst.grown (by have:=HR.out.2.1.size;omega) (fun z hz=>by injection hz with hz;have:=hrb;omega),HR.out.2.2.step hst.was hmem⟩)
      have hlt':w4.rangeLeft mb r<wr.rangeLeft mb r:=hst.lt
      clear hst hmem HR
      simp only
      cases c with
      |true=>
       go_wp2_with fail
       go_roundw
       case rel=>exact⟨_,cnt1,_,rfl,HN.out⟩
       case measure=>exact hlt'
      |false=>
       go_wp2_with fail
       go_roundw
       case rel=>exact⟨_,cnt1,_,rfl,HN.out⟩
       case measure=>exact hlt'
   ·intro p hp
    simp only[List.mem_cons,List.not_mem_nil,or_false] at hp
    rcases hp with rfl|rfl|rfl|rfl|rfl|rfl|rfl|rfl
    all_goals exact⟨_,_,_,rfl,rfl,rfl,rfl,rfl,rfl,rfl⟩
   ·decide+kernel
   ·decide+kernel
end Go.Proofs.YtlckmjiioohcmaaGreatDoor
namespace Go.Proofs.YtlckmjiioohcmaaGreatDoor
open Go.RowKit
def targetM (op:MOp):Int×Int×Int:=
 if plCheckM op≠0 then(0,0,plCheckM op) else if bits .and .i64 (usesK op.kind) 4≠0 then(op.seat,-1,0) else if bits .and .i64 (usesK op.kind) 64≠0 then(op.tk.seat,-1,0)
 else if bits .and .i64 (usesK op.kind) 8≠0 then(-1,op.section_,0) else(-1,-1,0)
theorem plCheckM_ok {op:MOp} (h:plCheckM op=0):1≤op.kind∧op.kind≤12:=by
 unfold plCheckM at h
 split at h
 ·cases h
 ·omega
set_option maxHeartbeats 4000000 in
set_option maxRecDepth 20000 in
theorem target_any (op:MOp) (w:World) (ho:OpOk op) (hu:UsesAt w):
 Calls Tryz.prog 61 #[.agg (opCells op).toArray] w fun e w'=>e=.returned (.tuple #[.int .i64 (targetM op).1,.int .i64 (targetM op).2.1,.int .i64 (targetM op).2.2])∧Below w.heap.size w w':=by
 have C1:=Lib.hid (fun W (hb:Below w.heap.size w W)=>plCheck_any op W (hu.up hb hu.1))
 have hM:=Lib.hid (show targetM op=if plCheckM op≠0 then(0,0,plCheckM op) else if bits .and .i64 (usesK op.kind) 4≠0 then(op.seat,-1,0) else if bits .and .i64 (usesK op.kind) 64≠0 then(op.tk.seat,-1,0)
  else if bits .and .i64 (usesK op.kind) 8≠0 then(-1,op.section_,0) else(-1,-1,0) from rfl)
 have hK:=Lib.hid (@plCheckM_ok op)
 generalize targetM op=M at hM⊢
 generalize plCheckM op=E at C1 hM hK
 have HU:=Lib.hid hu
 have hts:0≤op.tk.seat∧op.tk.seat≤4294967295:=ho.2.2.2.2.2.2.2.1.1
 clear hu
 unfold opCells at C1⊢
 go_enter Tryz.func61,Tryz.ntmps61
 go_wp2_with fail
 refine(C1.out _ (ba _ _)).mono ?_
 rintro e1 w1 ⟨rfl,hb1⟩
 have P1:=Lib.hid ((BoxN.new w 46 (opCells op).toArray).later hb1)
 have HB:=Lib.hid (show Below w.heap.size w w1 from(ba w _).trans (hb1.mono (ba w _).size))
 have HU1:=Lib.hid (HU.out.up HB.out HU.out.1)
 clear hb1 C1 HU
 by_cases h1:E=0
 case neg=>
  have t:(E !=0)=true:=by simpa using h1
  rw[if_pos h1] at hM
  go_wp2_with fail
  go_ret3
  exact⟨by rw[hM.out];rfl,HB.out⟩
 obtain⟨hk0,hk1⟩:=hK.out h1
 subst h1
 rw[if_neg (by simp)] at hM
 obtain⟨kk,hkk⟩:∃kk:Nat,op.kind=(kk:Int):=⟨op.kind.toNat,by omega⟩
 have cu:=HU1.out.2 kk (usesK op.kind) (by
  have hl:kk<usesL.length:=by show kk<13;omega
  simp[usesK,hkk,hl])
 have c0:=P1.out.cell 0 (.int .i64 op.kind) rfl
 rw[hkk] at c0
 have c3:=P1.out.cell 3 (.int .i64 op.seat) rfl
 have c4:=P1.out.cell 4 (.int .i64 op.section_) rfl
 have c7:=P1.out.cell 7 (.int .u32 op.tk.seat) rfl
 have zq:=P1.out.lt
 have z0:=HU1.out.1
 have hk2:(0:Int)≤(kk:Int):=by omega
 have hk3:(kk:Int)<13:=by omega
 generalize usesK op.kind=u at cu hM
 clear hkk hk0 hk1 hK
 by_cases q1:bits .and .i64 u 4≠0
 ·have t1:(bits .and .i64 u 4 !=0)=true:=by simpa using q1
  rw[if_pos q1] at hM
  clear q1
  go_wp2_with fail
  go_ret3
  exact⟨by rw[hM.out];rfl,HB.out⟩
 have t1:(bits .and .i64 u 4 !=0)=false:=by simpa using q1
 rw[if_neg q1] at hM
 clear q1
 by_cases q2:bits .and .i64 u 64≠0
 ·have t2:(bits .and .i64 u 64 !=0)=true:=by simpa using q2
  rw[if_pos q2] at hM
  clear q2
  go_wp2_with fail
  go_ret3
  exact⟨by rw[hM.out];rfl,HB.out⟩
 have t2:(bits .and .i64 u 64 !=0)=false:=by simpa using q2
 rw[if_neg q2] at hM
 clear q2
 by_cases q3:bits .and .i64 u 8≠0
 ·have t3:(bits .and .i64 u 8 !=0)=true:=by simpa using q3
  rw[if_pos q3] at hM
  clear q3
  go_wp2_with fail
  go_ret3
  exact⟨by rw[hM.out];rfl,HB.out⟩
 ·have t3:(bits .and .i64 u 8 !=0)=false:=by simpa using q3
  rw[if_neg q3] at hM
  clear q3
  go_wp2_with fail
  go_ret3
  exact⟨by rw[hM.out];rfl,HB.out⟩
end Go.Proofs.YtlckmjiioohcmaaGreatDoor
