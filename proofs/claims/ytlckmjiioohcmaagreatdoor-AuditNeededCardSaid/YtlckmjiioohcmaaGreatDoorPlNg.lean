/-
  The plain law of AuditNeeded: a record in which one step is changed, doubled or put in has that rule at that step as its first fault. Conditions: as each theorem says.
  The plain law of AuditNeeded, rule by rule. Conditions: as each theorem says.
  The plain law of AuditNeeded: what a record is spoilt to, and its first fault. Conditions: as each theorem says.
-/
import Derived.Test.YtlckmjiioohcmaaGreatDoorPlRp
namespace Go.Proofs.YtlckmjiioohcmaaGreatDoor
open Go.RowKit
structure GoodRec (x:Ve) (l:List (MOp×MRp)):Prop where
 new:(newA x).2=0
 step:∀(i:Nat) (hi:i<l.length),(readA (runA (newA x).1 (l.take i)) (l[i]).1 (l[i]).2).1=0∧(readA (runA (newA x).1 (l.take i)) (l[i]).1 (l[i]).2).2.1=0
 len:l.length≤900
def kindOk (p:MOp×MRp):Prop:=1≤p.1.kind∧p.1.kind≤12
theorem readA_kind {a:Au} {op:MOp} {rp:MRp}:(readA a op rp).2.1=0↔1≤op.kind∧op.kind≤12:=by
 unfold readA
 by_cases h:1≤op.kind∧op.kind≤12
 ·rw[if_neg (by simp;omega)];simp[h]
 ·rw[if_pos (by simp;omega)];simp;omega
theorem readA_in {a:Au} {op:MOp} {rp:MRp} (h:1≤op.kind∧op.kind≤12):readA a op rp=(brokenA a op rp,0,if brokenA a op rp=0∧rp.err=0 then learnA a op rp else a):=by
 unfold readA
 rw[if_neg (by simp;omega)]
theorem loop_err:∀(l:List (MOp×MRp)) (s:Au) (i:Nat) (acc:List (Int×Int)),(∀p,p∈l→kindOk p)→(checkLoop s i l acc).2=0
 |[],_,_,_,_=>rfl
 |p::l,s,i,acc,h=>by
  simp only[checkLoop]
  rw[if_neg (by simpa using readA_kind.2 (h p (by simp)))]
  exact loop_err l _ _ _ (fun q hq=>h q (by simp[hq]))
theorem loop_good {a:Au} {l:List (MOp×MRp)}:∀(n:Nat),n≤l.length→(∀(i:Nat) (hi:i<l.length),i<n→(readA (runA a (l.take i)) (l[i]).1 (l[i]).2).1=0∧(readA (runA a (l.take i)) (l[i]).1 (l[i]).2).2.1=0)→
 ∀m:List (MOp×MRp),checkLoop a 0 (l.take n++m) []=checkLoop (runA a (l.take n)) n m []
 |0,_,_,m=>by simp[runA]
 |n+1,hn,h,m=>by
  have hlt:n<l.length:=by omega
  rw[List.take_succ_eq_append_getElem hlt,List.append_assoc,loop_good n (by omega) (fun i hi hin=>h i hi (by omega)) ([l[n]]++m)]
  obtain⟨g1,g2⟩:=h n hlt (by omega)
  show checkLoop (runA a (l.take n)) n (l[n]::m) []=_
  simp only[checkLoop]
  rw[if_neg (by simpa using g2),if_neg (by simpa using g1)]
  have e:runA a (l.take n++[l[n]])=(readA (runA a (l.take n)) l[n].1 l[n].2).2.2:=by unfold runA;rw[List.foldl_append];rfl
  rw[e]
theorem fault_first {x:Ve} {l bad:List (MOp×MRp)} {at_:Nat} {p:MOp×MRp} {tl:List (MOp×MRp)} {r:Int} (h:GoodRec x l) (hat:at_≤l.length) (hb:bad=l.take at_++p::tl) (hlen:bad.length≤1000) (hk:∀q,q∈p::tl→kindOk q) (hr:brokenA (runA (newA x).1 (l.take at_)) p.1 p.2=r) (hr0:r≠0):
 (∃fs,checkA x bad=(((at_:Int),r)::fs,0))∧checkA x (bad.take at_)=([],0):=by
 have hgo:=fun m=>loop_good (a:=(newA x).1) (l:=l) at_ hat (fun i hi _=>h.step i hi) m
 have htl:(l.take at_).length=at_:=by rw[List.length_take];omega
 constructor
 ·have he:=loop_err (p::tl) (runA (newA x).1 (l.take at_)) at_ [] hk
  have hkp:=hk p (by simp)
  have e1:checkA x bad=checkLoop (runA (newA x).1 (l.take at_)) at_ (p::tl) []:=by
   unfold checkA
   rw[if_neg (by simpa using h.new),if_neg (by omega),hb,hgo]
  rw[e1]
  obtain⟨_,e2⟩:=checkLoop_cons he
  rw[readA_in hkp,hr] at e2
  dsimp only at e2
  rw[if_pos hr0] at e2
  rw[e2] at he⊢
  obtain⟨rest,e3,_⟩:=checkLoop_more _ _ _ _ he
  refine⟨rest, ?_⟩
  have:∀(z:List (Int×Int)×Int),z.2=0→z.1=[]++[((at_:Int),r)]++rest→z=(((at_:Int),r)::rest,0):=fun z h1 h2=>by
   obtain⟨z1,z2⟩:=z
   simp only at h1 h2
   rw[h1,h2];rfl
  exact this _ he e3
 ·have e0:bad.take at_=l.take at_++[]:=by rw[hb,List.take_append_of_le_length (by omega),List.take_of_length_le (by omega),List.append_nil]
  rw[e0]
  unfold checkA
  rw[if_neg (by simpa using h.new),if_neg (by rw[List.append_nil,List.length_take];have:=h.len;omega),hgo]
  rfl
def timeStep (t:Int) (p:MOp×MRp):Int:=if p.1.kind=12∧p.2.err=0 then p.1.now else t
def timeM (l:List (MOp×MRp)) (n:Nat):Int:=(l.take n).foldl timeStep 0
theorem seatMod_now (a:Au) (k:Nat) (f:Se→Se):(seatMod a k f).now=a.now:=by unfold seatMod;split<;>rfl
theorem learn_now (a:Au) (op:MOp) (rp:MRp):(learnA a op rp).now=if op.kind=12 then op.now else a.now:=by
 by_cases hk:op.kind=12
 ·rw[if_pos hk];simp[learnA,isB,hk]
 ·rw[if_neg hk]
  unfold learnA
  (repeat' split)<;>first|rfl|(rename_i h;simp[isB,hk] at h;done)|simp[seatMod_now]
theorem run_now {x:Ve} {l:List (MOp×MRp)} (h:GoodRec x l):∀n,n≤l.length→(runA (newA x).1 (l.take n)).now=timeM l n
 |0,_=>(by have:=h.new;unfold newA at this⊢;split at this<;>rename_i h9;exact absurd this h9;rw[if_neg h9];rfl)
 |n+1,hn=>by
  have hlt:n<l.length:=by omega
  have ih:=run_now h n (by omega)
  obtain⟨g1,g2⟩:=h.step n hlt
  have hk:=readA_kind.1 g2
  unfold timeM at ih⊢
  rw[List.take_succ_eq_append_getElem hlt,List.foldl_append]
  have e:runA (newA x).1 (l.take n++[l[n]])=(readA (runA (newA x).1 (l.take n)) l[n].1 l[n].2).2.2:=by unfold runA;rw[List.foldl_append];rfl
  rw[e,readA_in hk]
  rw[readA_in hk] at g1
  dsimp only at g1⊢
  simp only[List.foldl_cons,List.foldl_nil,timeStep]
  by_cases he:l[n].2.err=0
  ·rw[if_pos ⟨g1,he⟩,learn_now]
   by_cases h12:l[n].1.kind=12
   ·rw[if_pos h12,if_pos ⟨h12,he⟩]
   ·rw[if_neg h12,if_neg (fun h=>h12 h.1)];exact ih
  ·rw[if_neg (fun h=>he h.2),if_neg (fun h=>he h.2)];exact ih
end Go.Proofs.YtlckmjiioohcmaaGreatDoor
namespace Go.Proofs.YtlckmjiioohcmaaGreatDoor
open Go.RowKit
theorem more_zero {a:Au} {op:MOp} {rp:MRp} (h:brokenA a op rp=0):moreA op.kind rp=false:=by
 cases hm:moreA op.kind rp with
 |false=>rfl
 |true=>unfold brokenA at h;rw[hm] at h;simp at h
theorem broken_at {a:Au} {op:MOp} {rp:MRp} {n:Int} (hm:moreA op.kind rp=false) (he:rp.err=0) {k:Nat} (hk:k<11) (hp:ruleA a op rp k=true) (hj:∀j,j<k→ruleA a op rp j=false) (hn:(k:Int)+3=n):brokenA a op rp=n:=by
 subst hn
 unfold brokenA
 rw[hm]
 simp only[Bool.false_eq_true,if_false]
 rw[if_neg (by simp[he]),find_range hk hp hj]
def inc32 (x:Int):Int:=(x+1)%4294967296
def inc64 (x:Int):Int:=(x+1)%18446744073709551616
theorem inc32_ne (x:Int):inc32 x≠x:=by unfold inc32;omega
theorem inc64_ne (x:Int):inc64 x≠x:=by unfold inc64;omega
section
variable {a:Au} {op:MOp} {rp:MRp}
theorem more_place (hk:op.kind≠10):moreA op.kind {rp with place:=1}=true:=by
 have h10:isB [10] op.kind=false:=by simp[isB,hk]
 unfold moreA leftA
 rw[h10]
 (repeat' split)<;>simp_all [noRp]
theorem more_seat (hk:op.kind=10):moreA op.kind {rp with seat:=1}=true:=by
 rw[hk]
 unfold moreA leftA
 (repeat' split)<;>simp_all [noRp,isB]
theorem spoil1:brokenA a op (if op.kind=10 then {rp with seat:=1} else {rp with place:=1})=1:=by
 unfold brokenA
 by_cases hk:op.kind=10
 ·rw[if_pos hk,more_seat hk];rfl
 ·rw[if_neg hk,more_place hk];rfl
structure Done (a:Au) (op:MOp) (rp:MRp):Prop where
 ok:Aok a
 more:moreA op.kind rp=false
 err:rp.err=0
 rule:∀k,k<11→ruleA a op rp k=false
theorem spoil3 (h:Done a op rp) (hk:op.kind≠1∧op.kind≠9∧op.kind≠12):brokenA a {op with till:=0} rp=3:=by
 refine broken_at (k:=0) h.more h.err (by omega) ?_ (fun j hj=>by omega) rfl
 have:=h.ok.hnow
 simp[ruleA,sessionA,isB,hk.1,hk.2.1,hk.2.2,this]
theorem spoil4 (h:Done a op rp) (hk:op.kind=6∨op.kind=7∨op.kind=8):brokenA a {op with owner:=inc32 op.owner} rp=4:=by
 refine broken_at (k:=1) h.more h.err (by omega) ?_ (fun j hj=> ?_) rfl
 ·have h1:=h.rule 1 (by omega)
  have hne:=inc32_ne op.owner
  rcases hk with hk|hk|hk
  ·simp[ruleA,ownerA,isB,hk] at h1⊢
   rw[h1];exact fun h=>hne h.symm
  ·simp[ruleA,ownerA,isB,hk] at h1⊢
   rw[h1];exact fun h=>hne h.symm
  ·simp[ruleA,ownerA,isB,hk] at h1⊢
   rw[h1];decide
 ·obtain rfl:j=0:=by omega
  exact h.rule 0 (by omega)
theorem secs_le (h:Aok a):a.waiting.length≤8:=by rw[h.hw];exact(checkV_ok h.hc).1.1
theorem seats_le (h:Aok a):a.seats.length≤4096:=by have:=h.hn;have:=(checkV_ok h.hc).2.1;omega
theorem spoil5a (h:Done a op rp) (hk:op.kind=2∨op.kind=4∨op.kind=5∨op.kind=8):brokenA a {op with seat:=4096} rp=5:=by
 refine broken_at (k:=2) h.more h.err (by omega) ?_ (fun j hj=> ?_) rfl
 ·have:=seats_le h.ok
  rcases hk with hk|hk|hk|hk<;>(simp[ruleA,lostA,isB,hk,seatA];omega)
 ·have hj2:j=0∨j=1:=by omega
  rcases hj2 with rfl|rfl
  ·exact h.rule 0 (by omega)
  ·exact h.rule 1 (by omega)
theorem spoil5b (h:Done a op rp) (hk:op.kind=3):brokenA a op {rp with n:=rp.n+1}=5:=by
 refine broken_at (k:=2) ?_ h.err (by omega) ?_ (fun j hj=> ?_) rfl
 ·have:=h.more
  have he:=h.err
  rw[hk] at this⊢
  simp[moreA,leftA,isB,he] at this⊢
  exact this
 ·have h2:=h.rule 2 (by omega)
  simp[ruleA,lostA,isB,hk] at h2⊢
  omega
 ·have hj2:j=0∨j=1:=by omega
  rcases hj2 with rfl|rfl
  ·exact h.rule 0 (by omega)
  ·exact h.rule 1 (by omega)
theorem spoil5c (h:Done a op rp) (hk:op.kind=10∨op.kind=11):brokenA a {op with section_:=8} rp=5:=by
 refine broken_at (k:=2) h.more h.err (by omega) ?_ (fun j hj=> ?_) rfl
 ·have:=secs_le h.ok
  rcases hk with hk|hk<;>(simp[ruleA,lostA,isB,hk];omega)
 ·have hj2:j=0∨j=1:=by omega
  rcases hj2 with rfl|rfl
  ·exact h.rule 0 (by omega)
  ·exact h.rule 1 (by omega)
theorem spoil6 (h:Done a op rp) (hk:op.kind=12) {t:Int} (ht:a.now=t):brokenA a {op with now:=t-1} rp=6:=by
 refine broken_at (k:=3) h.more h.err (by omega) ?_ (fun j hj=> ?_) rfl
 ·simp[ruleA,clockA,isB,hk,ht];omega
 ·have hj2:j=0∨j=1∨j=2:=by omega
  rcases hj2 with rfl|rfl|rfl
  ·exact h.rule 0 (by omega)
  ·exact h.rule 1 (by omega)
  ·exact h.rule 2 (by omega)
theorem spoil7 (h:Done a op rp) (hk:op.kind=1∨op.kind=2∨op.kind=3):brokenA a op {rp with deadline:=rp.deadline-1}=7:=by
 refine broken_at (k:=4) ?_ h.err (by omega) ?_ (fun j hj=> ?_) rfl
 ·have:=h.more
  have he:=h.err
  rcases hk with hk|hk|hk<;>
  ·rw[hk] at this⊢
   simp[moreA,leftA,isB,he] at this⊢
   exact this
 ·have h2:=h.rule 4 (by omega)
  rcases hk with hk|hk|hk<;>
  ·simp[ruleA,lateA,isB,hk] at h2⊢
   omega
 ·have hj2:j=0∨j=1∨j=2∨j=3:=by omega
  rcases hj2 with rfl|rfl|rfl|rfl
  ·exact h.rule 0 (by omega)
  ·exact h.rule 1 (by omega)
  ·exact h.rule 2 (by omega)
  ·exact h.rule 3 (by omega)
theorem spoil12 (h:Done a op rp) (hk:op.kind=5∨op.kind=6):brokenA a op {rp with tk:={rp.tk with epoch:=inc64 rp.tk.epoch}}=12:=by
 refine broken_at (k:=9) ?_ h.err (by omega) ?_ (fun j hj=> ?_) rfl
 ·have:=h.more
  have he:=h.err
  rcases hk with hk|hk<;>
  ·rw[hk] at this⊢
   simp[moreA,leftA,isB,he] at this⊢
   exact this
 ·have h2:=h.rule 9 (by omega)
  have h3:=h.rule 2 (by omega)
  have hne:=inc64_ne rp.tk.epoch
  have hlt:(seatA op).toNat<a.seats.length:=by
   rcases hk with hk|hk<;>(simp[ruleA,lostA,isB,hk] at h3;omega)
  simp only[ruleA,wrongA] at h2⊢
  rw[seA_some hlt] at h2⊢
  rcases hk with hk|hk<;>
  ·simp[isB,hk] at h2⊢
   have e:rp.tk.epoch=(seA a (seatA op).toNat).epoch:=by rw[h2.2]
   exact .inr fun _ _ _ h4=>hne (h4.trans e.symm)
 ·match j,hj with
  |0,_=>exact h.rule 0 (by omega)
  |1,_=>exact h.rule 1 (by omega)
  |2,_=>exact h.rule 2 (by omega)
  |3,_=>exact h.rule 3 (by omega)
  |4,_=>exact h.rule 4 (by omega)
  |5,_=>exact h.rule 5 (by omega)
  |6,_=>exact h.rule 6 (by omega)
  |7,_=>exact h.rule 7 (by omega)
  |8,_=>exact h.rule 8 (by omega)
theorem spoil13 (h:Done a op rp) (hk:op.kind=10):brokenA a op {rp with place:=queueOf a.ve op.section_.toNat+1}=13:=by
 refine broken_at (k:=10) ?_ h.err (by omega) ?_ (fun j hj=> ?_) rfl
 ·have:=h.more
  have he:=h.err
  rw[hk] at this⊢
  simp[moreA,leftA,isB,he] at this⊢
  exact this
 ·simp[ruleA,listA,isB,hk]
  omega
 ·match j,hj with
  |0,_=>exact h.rule 0 (by omega)
  |1,_=>exact h.rule 1 (by omega)
  |2,_=>exact h.rule 2 (by omega)
  |3,_=>exact h.rule 3 (by omega)
  |4,_=>exact h.rule 4 (by omega)
  |5,_=>exact h.rule 5 (by omega)
  |6,_=>exact h.rule 6 (by omega)
  |7,_=>exact h.rule 7 (by omega)
  |8,_=>exact h.rule 8 (by omega)
  |9,_=>exact h.rule 9 (by omega)
theorem learn_sold (h:Done a op rp) (hk:op.kind=5∨op.kind=6):∃(K:Nat) (o:Int),seatA op=(K:Int)∧K<a.seats.length∧learnA a op rp={a with seats:=a.seats.set K (soldS o (seA a K))}∧rp.tk=⟨(K:Int),o,(seA a K).serial+1,(seA a K).epoch⟩:=by
 obtain⟨K,hK,hl⟩:=lost_seat (h.rule 2 (by omega)) (by rcases hk with hk|hk<;>simp[isB,hk]) (by rcases hk with hk|hk<;>simp[isB,hk])
 have h9:=h.rule 9 (by omega)
 simp only[ruleA,wrongA] at h9
 rw[hK,Int.toNat_natCast,seA_some hl] at h9
 refine⟨K,if op.kind=6 then op.to else op.owner,hK,hl, ?_, ?_⟩
 ·rw[show learnA a op rp=seatMod a K (soldS (if op.kind=6 then op.to else op.owner)) by rcases hk with hk|hk<;>simp[learnA,isB,hk,hK]]
  exact seatMod_some hl _
 ·rcases hk with hk|hk<;>
  ·simp[isB,hk] at h9⊢
   exact h9.2
theorem spoil2 (h:Done a op rp) (hk:op.kind=5∨op.kind=6):brokenA (learnA a op rp) {noOp with kind:=9,tk:=rp.tk} {noRp with err:=16}=2:=by
 obtain⟨K,o,hK,hl,e,et⟩:=learn_sold h hk
 rw[e,et]
 unfold brokenA
 rw[show moreA 9 {noRp with err:=16}=false from rfl]
 simp[isB,validA,hl,soldS]
theorem spoil10 (h:Done a op rp) (hk:op.kind=5∨op.kind=6):brokenA (learnA a op rp) {noOp with kind:=9,tk:={rp.tk with serial:=inc64 rp.tk.serial}} noRp=10:=by
 obtain⟨K,o,hK,hl,e,et⟩:=learn_sold h hk
 have hne:=inc64_ne ((seA a K).serial+1)
 rw[e,et]
 refine broken_at (k:=7) rfl rfl (by omega) ?_ (fun j hj=> ?_) rfl
 ·simp[ruleA,validB,isB,validA,hl,soldS,hne]
 ·match j,hj with
  |0,_=>rfl
  |1,_=>rfl
  |2,_=>simp[ruleA,lostA,isB,seatA];omega
  |3,_=>rfl
  |4,_=>rfl
  |5,_=>rfl
  |6,_=>rfl
theorem learn_hold (h:Done a op rp) (hk:op.kind=2):∃K:Nat,op.seat=(K:Int)∧K<a.seats.length∧learnA a op rp={a with seats:=a.seats.set K (holdS op.owner rp.deadline (seA a K))}∧(seA a K).sold=false:=by
 obtain⟨K,hK,hl⟩:=lost_seat (h.rule 2 (by omega)) (by simp[isB,hk]) (by simp[isB,hk])
 have hs:op.seat=(K:Int):=by rw[←hK];simp[seatA,hk]
 refine⟨K,hs,hl, ?_, ?_⟩
 ·simp[learnA,isB,hk,firstA,manyA,hs,modSeg_one _ _ hl,seA_get hl]
 ·have h5:=h.rule 5 (by omega)
  have:(a.seats.drop K).take 1=[seA a K]:=by rw[List.drop_eq_getElem_cons hl,List.take_succ_cons,List.take_zero,seA_get hl]
  simp[ruleA,takenA,isB,hk,chosenL,hs,this] at h5
  exact h5.1
theorem spoil9 (h:Done a op rp) (hk:op.kind=2):brokenA (learnA a op rp) {op with kind:=5,owner:=inc32 op.owner} noRp=9:=by
 obtain⟨K,hs,hl,e,hsold⟩:=learn_hold h hk
 have hne:=inc32_ne op.owner
 rw[e]
 refine broken_at (k:=6) rfl rfl (by omega) ?_ (fun j hj=> ?_) rfl
 ·simp[ruleA,holderA,isB,hs,hl,holdS,hsold]
  exact fun h=>hne h.symm
 ·have h0:=h.rule 0 (by omega)
  match j,hj with
  |0,_=>simpa[ruleA,sessionA,isB,hk] using h0
  |1,_=>rfl
  |2,_=>simp[ruleA,lostA,isB,seatA,hs];omega
  |3,_=>rfl
  |4,_=>rfl
  |5,_=>rfl
theorem spoil8 (h:Done a op rp) (hk:op.kind=2∨op.kind=3):brokenA (learnA a op rp) op rp=8:=by
 obtain⟨k,m,hkm,hm,e,hc⟩:∃k m:Nat,k+m≤a.seats.length∧1≤m∧learnA a op rp={a with seats:=modSeg (holdS op.owner rp.deadline) a.seats k m}∧∀l:List Se,chosenL l op rp=(l.drop k).take m:=by
  rcases hk with hk|hk
  ·obtain⟨K,hs,hl,_,_⟩:=learn_hold h hk
   exact⟨K,1,by omega,by omega,by simp[learnA,isB,hk,firstA,manyA,hs],fun l=>by simp[chosenL,isB,hk,hs]⟩
  ·obtain⟨k,m,h1,h2,h3,h4⟩:=lost_block h.ok (h.rule 2 (by omega)) (by simp[isB,hk])
   exact⟨k,m,h3,h4,by simp[learnA,isB,hk,firstA,manyA,h1,h2],fun l=>by simp[chosenL,isB,hk,h1,h2]⟩
 rw[e]
 have hlen:(modSeg (holdS op.owner rp.deadline) a.seats k m).length=a.seats.length:=modSeg_many hkm
 refine broken_at (k:=5) h.more h.err (by omega) ?_ (fun j hj=> ?_) rfl
 ·have hb:isB [2,3] op.kind=true:=by rcases hk with hk|hk<;>simp[isB,hk]
  simp only[ruleA,takenA,hb,hc,Bool.true_and]
  refine List.any_eq_true.2 ⟨holdS op.owner rp.deadline (seA a k), ?_,by simp[holdS]⟩
  refine List.mem_of_getElem? (i:=0) ?_
  rw[List.getElem?_take,if_pos (by omega),List.getElem?_drop,modSeg_get2 hkm,if_pos ⟨by omega,by omega⟩,Nat.add_zero,seA_some (by omega)]
  rfl
 ·match j,hj with
  |0,_=>exact h.rule 0 (by omega)
  |1,_=>exact h.rule 1 (by omega)
  |2,_=>have h2:=h.rule 2 (by omega);simpa only[ruleA,lostA,hlen] using h2
  |3,_=>exact h.rule 3 (by omega)
  |4,_=>exact h.rule 4 (by omega)
theorem spoil11 (h:Done a op rp) (hk:op.kind=8):brokenA (learnA a op rp) op rp=11:=by
 obtain⟨K,hK,hl⟩:=lost_seat (h.rule 2 (by omega)) (by simp[isB,hk]) (by simp[isB,hk])
 have hs:op.seat=(K:Int):=by rw[←hK];simp[seatA,hk]
 have e:learnA a op rp={a with seats:=a.seats.set K (revS (seA a K))}:=by
  rw[show learnA a op rp=seatMod a K revS by simp[learnA,isB,hk,hK]]
  exact seatMod_some hl _
 rw[e]
 refine broken_at (k:=8) h.more h.err (by omega) ?_ (fun j hj=> ?_) rfl
 ·simp[ruleA,soldA,isB,hk,hs,hl,revS]
 ·match j,hj with
  |0,_=>exact h.rule 0 (by omega)
  |1,_=>exact h.rule 1 (by omega)
  |2,_=>have h2:=h.rule 2 (by omega);simpa only[ruleA,lostA,List.length_set] using h2
  |3,_=>exact h.rule 3 (by omega)
  |4,_=>exact h.rule 4 (by omega)
  |5,_=>simp[ruleA,takenA,isB,hk]
  |6,_=>simp[ruleA,holderA,isB,hk]
  |7,_=>simp[ruleA,validB,isB,hk]
end
end Go.Proofs.YtlckmjiioohcmaaGreatDoor
namespace Go.Proofs.YtlckmjiioohcmaaGreatDoor
open Go.RowKit
def putM (l:List (MOp×MRp)) (i:Nat) (p:MOp×MRp):List (MOp×MRp):=l.take (i+1)++p::l.drop (i+1)
def issuedP (op:MOp) (rp:MRp):Prop:=rp.err=0∧(op.kind=5∨op.kind=6)
instance (op:MOp) (rp:MRp):Decidable (issuedP op rp):=inferInstanceAs (Decidable (_∧_))
def spoilM (x:Ve) (l:List (MOp×MRp)) (i:Nat) (op:MOp) (rp:MRp) (r t:Int):Option (List (MOp×MRp)×Nat):=
 if r=1 then some (l.set i (op,if op.kind=10 then {rp with seat:=1} else {rp with place:=1}),i)
 else if r=2∧issuedP op rp then some (putM l i ({noOp with kind:=9,tk:=rp.tk},{noRp with err:=16}),i+1)
 else if r=3∧rp.err=0∧op.kind≠1∧op.kind≠9∧op.kind≠12 then some (l.set i ({op with till:=0},rp),i)
 else if r=4∧rp.err=0∧(op.kind=8∨op.kind=6∨op.kind=7) then some (l.set i ({op with owner:=inc32 op.owner},rp),i)
 else if r=5∧rp.err=0∧(op.kind=2∨op.kind=4∨op.kind=5∨op.kind=8) then some (l.set i ({op with seat:=4096},rp),i)
 else if r=5∧rp.err=0∧op.kind=3 then some (l.set i (op,{rp with n:=rp.n+1}),i)
 else if r=5∧rp.err=0∧(op.kind=10∨op.kind=11) then some (l.set i ({op with section_:=8},rp),i)
 else if r=6∧rp.err=0∧op.kind=12∧0<t then some (l.set i ({op with now:=t-1},rp),i)
 else if r=7∧rp.err=0∧(op.kind=1∨op.kind=2∨op.kind=3) then some (l.set i (op,{rp with deadline:=rp.deadline-1}),i)
 else if r=8∧rp.err=0∧(op.kind=2∨op.kind=3) then some (putM l i (op,rp),i+1)
 else if r=9∧rp.err=0∧op.kind=2 then some (putM l i ({op with kind:=5,owner:=inc32 op.owner},noRp),i+1)
 else if r=10∧issuedP op rp then some (putM l i ({noOp with kind:=9,tk:={rp.tk with serial:=inc64 rp.tk.serial}},noRp),i+1)
 else if r=11∧rp.err=0∧op.kind=8 then some (putM l i (op,rp),i+1)
 else if r=12∧issuedP op rp then some (l.set i (op,{rp with tk:={rp.tk with epoch:=inc64 rp.tk.epoch}}),i)
 else if r=13∧rp.err=0∧op.kind=10∧0≤op.section_∧op.section_<x.secs.length then some (l.set i (op,{rp with place:=queueOf x op.section_.toNat+1}),i)
 else none
def Spoilt (x:Ve) (bad:List (MOp×MRp)) (at_:Nat) (r:Int):Prop:=(∃fs,checkA x bad=(((at_:Int),r)::fs,0))∧checkA x (bad.take at_)=([],0)∧at_≤bad.length∧bad.length≤1000
theorem good_kinds {x:Ve} {l:List (MOp×MRp)} (h:GoodRec x l):∀q,q∈l→kindOk q:=fun q hq=>by
 obtain⟨j,hj,rfl⟩:=List.getElem_of_mem hq
 exact readA_kind.1 (h.step j hj).2
theorem set_spoilt {x:Ve} {l:List (MOp×MRp)} (h:GoodRec x l) {i:Nat} (hi:i<l.length) {p:MOp×MRp} {r:Int} (hk:kindOk p) (hr:brokenA (runA (newA x).1 (l.take i)) p.1 p.2=r) (hr0:r≠0):Spoilt x (l.set i p) i r:=by
 have hlen:=h.len
 have e:l.set i p=l.take i++p::l.drop (i+1):=by rw[List.set_eq_take_append_cons_drop,if_pos hi]
 have hl:(l.set i p).length≤1000:=by rw[List.length_set];omega
 obtain⟨h1,h2⟩:=fault_first h (Nat.le_of_lt hi) e hl (fun q hq=>by
  rcases List.mem_cons.1 hq with rfl|hq
  ·exact hk
  ·exact good_kinds h q (List.mem_of_mem_drop hq)) hr hr0
 exact⟨h1,h2,by rw[List.length_set];omega,hl⟩
theorem put_spoilt {x:Ve} {l:List (MOp×MRp)} (h:GoodRec x l) {i:Nat} (hi:i<l.length) {p:MOp×MRp} {r:Int} (hk:kindOk p) (hr:brokenA (runA (newA x).1 (l.take (i+1))) p.1 p.2=r) (hr0:r≠0):Spoilt x (putM l i p) (i+1) r:=by
 have hlen:=h.len
 have hl2:(putM l i p).length=l.length+1:=by unfold putM;rw[List.length_append,List.length_cons,List.length_take,List.length_drop];omega
 obtain⟨h1,h2⟩:=fault_first h (at_:=i+1) (by omega) (show putM l i p=l.take (i+1)++p::l.drop (i+1) from rfl) (by omega) (fun q hq=>by
  rcases List.mem_cons.1 hq with rfl|hq
  ·exact hk
  ·exact good_kinds h q (List.mem_of_mem_drop hq)) hr hr0
 exact⟨h1,h2,by omega,by omega⟩
theorem spoil_law {x:Ve} {l:List (MOp×MRp)} (h:GoodRec x l) {i:Nat} (hi:i<l.length) {op:MOp} {rp:MRp} (hp:l[i]=(op,rp)) {r:Int} {bad:List (MOp×MRp)} {at_:Nat} (hs:spoilM x l i op rp r (timeM l i)=some (bad,at_)):Spoilt x bad at_ r:=by
 obtain⟨g1,g2⟩:=h.step i hi
 have hki:=readA_kind.1 g2
 rw[hp] at g1 g2 hki
 dsimp only at g1 g2 hki
 rw[readA_in hki] at g1
 dsimp only at g1
 have hok:Aok (runA (newA x).1 (l.take i)):=by
  have:∀(l:List (MOp×MRp)) (s:Au),Aok s→Aok (runA s l):=by
   intro l
   induction l with
   |nil=>intro s h;exact h
   |cons p l ih=>intro s h;exact ih _ (read_ok h)
  exact this _ _ (new_ok h.new)
 have hve:(runA (newA x).1 (l.take i)).ve=x:=by
  have:∀(l:List (MOp×MRp)) (s:Au),(runA s l).ve=s.ve:=by
   intro l
   induction l with
   |nil=>intro s;rfl
   |cons p l ih=>intro s;exact(ih _).trans (read_ve _ _ _)
  rw[this]
  have:=h.new
  unfold newA at this⊢
  split at this
  ·rename_i h9;exact absurd this h9
  ·rename_i h9;rw[if_neg h9]
 have hnow:=run_now h i (Nat.le_of_lt hi)
 have hD:rp.err=0→Done (runA (newA x).1 (l.take i)) op rp:=fun he=>⟨hok,more_zero g1,he,(broken_zero g1).2 he⟩
 have hnx:rp.err=0→runA (newA x).1 (l.take (i+1))=learnA (runA (newA x).1 (l.take i)) op rp:=fun he=>by
  rw[List.take_succ_eq_append_getElem hi,hp]
  have e:runA (newA x).1 (l.take i++[(op,rp)])=(readA (runA (newA x).1 (l.take i)) op rp).2.2:=by unfold runA;rw[List.foldl_append];rfl
  rw[e,readA_in hki]
  dsimp only
  rw[if_pos ⟨g1,he⟩]
 generalize ha:runA (newA x).1 (l.take i)=a at*
 unfold spoilM at hs
 by_cases hr:r=1
 ·rw[if_pos hr] at hs;cases hs;subst hr;exact set_spoilt h hi hki (by rw[ha];exact spoil1) (by decide)
 rw[if_neg hr] at hs
 clear hr
 by_cases hr:r=2∧issuedP op rp
 ·rw[if_pos hr] at hs;cases hs;obtain⟨rfl,he,hk⟩:=hr;exact put_spoilt h hi ⟨show(1:Int)≤9 by decide,show(9:Int)≤12 by decide⟩ (by rw[hnx he];exact spoil2 (hD he) hk) (by decide)
 rw[if_neg hr] at hs
 clear hr
 by_cases hr:r=3∧rp.err=0∧op.kind≠1∧op.kind≠9∧op.kind≠12
 ·rw[if_pos hr] at hs;cases hs;obtain⟨rfl,he,hk⟩:=hr;exact set_spoilt h hi hki (by rw[ha];exact spoil3 (hD he) hk) (by decide)
 rw[if_neg hr] at hs
 clear hr
 by_cases hr:r=4∧rp.err=0∧(op.kind=8∨op.kind=6∨op.kind=7)
 ·rw[if_pos hr] at hs;cases hs;obtain⟨rfl,he,hk⟩:=hr;exact set_spoilt h hi hki (by rw[ha];exact spoil4 (hD he) (by omega)) (by decide)
 rw[if_neg hr] at hs
 clear hr
 by_cases hr:r=5∧rp.err=0∧(op.kind=2∨op.kind=4∨op.kind=5∨op.kind=8)
 ·rw[if_pos hr] at hs;cases hs;obtain⟨rfl,he,hk⟩:=hr;exact set_spoilt h hi hki (by rw[ha];exact spoil5a (hD he) hk) (by decide)
 rw[if_neg hr] at hs
 clear hr
 by_cases hr:r=5∧rp.err=0∧op.kind=3
 ·rw[if_pos hr] at hs;cases hs;obtain⟨rfl,he,hk⟩:=hr;exact set_spoilt h hi hki (by rw[ha];exact spoil5b (hD he) hk) (by decide)
 rw[if_neg hr] at hs
 clear hr
 by_cases hr:r=5∧rp.err=0∧(op.kind=10∨op.kind=11)
 ·rw[if_pos hr] at hs;cases hs;obtain⟨rfl,he,hk⟩:=hr;exact set_spoilt h hi hki (by rw[ha];exact spoil5c (hD he) hk) (by decide)
 rw[if_neg hr] at hs
 clear hr
 by_cases hr:r=6∧rp.err=0∧op.kind=12∧0<timeM l i
 ·rw[if_pos hr] at hs;cases hs;obtain⟨rfl,he,hk,_⟩:=hr;exact set_spoilt h hi hki (by rw[ha];exact spoil6 (hD he) hk hnow) (by decide)
 rw[if_neg hr] at hs
 clear hr
 by_cases hr:r=7∧rp.err=0∧(op.kind=1∨op.kind=2∨op.kind=3)
 ·rw[if_pos hr] at hs;cases hs;obtain⟨rfl,he,hk⟩:=hr;exact set_spoilt h hi hki (by rw[ha];exact spoil7 (hD he) hk) (by decide)
 rw[if_neg hr] at hs
 clear hr
 by_cases hr:r=8∧rp.err=0∧(op.kind=2∨op.kind=3)
 ·rw[if_pos hr] at hs;cases hs;obtain⟨rfl,he,hk⟩:=hr;exact put_spoilt h hi hki (by rw[hnx he];exact spoil8 (hD he) hk) (by decide)
 rw[if_neg hr] at hs
 clear hr
 by_cases hr:r=9∧rp.err=0∧op.kind=2
 ·rw[if_pos hr] at hs;cases hs;obtain⟨rfl,he,hk⟩:=hr;exact put_spoilt h hi ⟨show(1:Int)≤5 by decide,show(5:Int)≤12 by decide⟩ (by rw[hnx he];exact spoil9 (hD he) hk) (by decide)
 rw[if_neg hr] at hs
 clear hr
 by_cases hr:r=10∧issuedP op rp
 ·rw[if_pos hr] at hs;cases hs;obtain⟨rfl,he,hk⟩:=hr;exact put_spoilt h hi ⟨show(1:Int)≤9 by decide,show(9:Int)≤12 by decide⟩ (by rw[hnx he];exact spoil10 (hD he) hk) (by decide)
 rw[if_neg hr] at hs
 clear hr
 by_cases hr:r=11∧rp.err=0∧op.kind=8
 ·rw[if_pos hr] at hs;cases hs;obtain⟨rfl,he,hk⟩:=hr;exact put_spoilt h hi hki (by rw[hnx he];exact spoil11 (hD he) hk) (by decide)
 rw[if_neg hr] at hs
 clear hr
 by_cases hr:r=12∧issuedP op rp
 ·rw[if_pos hr] at hs;cases hs;obtain⟨rfl,he,hk⟩:=hr;exact set_spoilt h hi hki (by rw[ha];exact spoil12 (hD he) hk) (by decide)
 rw[if_neg hr] at hs
 clear hr
 by_cases hr:r=13∧rp.err=0∧op.kind=10∧0≤op.section_∧op.section_<x.secs.length
 ·rw[if_pos hr] at hs;cases hs;obtain⟨rfl,he,hk,_⟩:=hr;exact set_spoilt h hi hki (by rw[ha,←hve];exact spoil13 (hD he) hk) (by decide)
 rw[if_neg hr] at hs
 clear hr
 cases hs
theorem rec_goodRec {x:Ve} (h:(newM x).2=0) {ops:List MOp} (ho:∀op,op∈ops→OpOk op) (hl:ops.length≤900):GoodRec x (recTo (newM x).1 ops).2:=
 ⟨(new_coup h).1,(rec_good h ho (by omega)).2,by have:=recTo_len (newM x).1 ops;omega⟩
end Go.Proofs.YtlckmjiioohcmaaGreatDoor
