/-
  Walks of groundlingref22.Check and Target: they answer as package plans. Conditions: as each theorem says.
-/
import Derived.Test.YtlckmjiioohcmaaGreatDoorMdT
import Derived.Test.YtlckmjiioohcmaaGreatDoorMdY
import Derived.Test.YtlckmjiioohcmaaGreatDoorLmE
import Derived.BigQuiet
import Derived.Deep.CutBlock
namespace Go.Proofs.YtlckmjiioohcmaaGreatDoor
open Go.RowKit
def xOp (op:MOp):MOp:=
 if op.kind=1 then⟨op.kind,op.owner,0,0,0,0,0,noTk,0⟩
 else if op.kind=2∨op.kind=5∨op.kind=4∨op.kind=8 then⟨op.kind,op.owner,op.till,op.seat,0,0,0,noTk,0⟩
 else if op.kind=3 then⟨op.kind,op.owner,op.till,0,op.section_,op.n,0,noTk,0⟩
 else if op.kind=6 then⟨op.kind,op.owner,op.till,0,0,0,op.to,op.tk,0⟩
 else if op.kind=7 then⟨op.kind,op.owner,op.till,0,0,0,0,op.tk,0⟩
 else if op.kind=9 then⟨op.kind,0,0,0,0,0,0,op.tk,0⟩
 else if op.kind=10∨op.kind=11 then⟨op.kind,op.owner,op.till,0,op.section_,0,0,noTk,0⟩
 else⟨op.kind,0,0,0,0,0,0,noTk,op.now⟩
theorem not_1:∀c0 c1 c2 c3 c4 c5 c6 c7,(bits .andNot .i64 (hS c0 c1 c2 c3 c4 c5 c6 c7) 1==0)=(!c1&& !c2&& !c3&& !c4&& !c5&& !c6&& !c7):=by decide+kernel
theorem not_7:∀c0 c1 c2 c3 c4 c5 c6 c7,(bits .andNot .i64 (hS c0 c1 c2 c3 c4 c5 c6 c7) 7==0)=(!c3&& !c4&& !c5&& !c6&& !c7):=by decide+kernel
theorem not_27:∀c0 c1 c2 c3 c4 c5 c6 c7,(bits .andNot .i64 (hS c0 c1 c2 c3 c4 c5 c6 c7) 27==0)=(!c2&& !c5&& !c6&& !c7):=by decide+kernel
theorem not_99:∀c0 c1 c2 c3 c4 c5 c6 c7,(bits .andNot .i64 (hS c0 c1 c2 c3 c4 c5 c6 c7) 99==0)=(!c2&& !c3&& !c4&& !c7):=by decide+kernel
theorem not_67:∀c0 c1 c2 c3 c4 c5 c6 c7,(bits .andNot .i64 (hS c0 c1 c2 c3 c4 c5 c6 c7) 67==0)=(!c2&& !c3&& !c4&& !c5&& !c7):=by decide+kernel
theorem not_64:∀c0 c1 c2 c3 c4 c5 c6 c7,(bits .andNot .i64 (hS c0 c1 c2 c3 c4 c5 c6 c7) 64==0)=(!c0&& !c1&& !c2&& !c3&& !c4&& !c5&& !c7):=by decide+kernel
theorem not_11:∀c0 c1 c2 c3 c4 c5 c6 c7,(bits .andNot .i64 (hS c0 c1 c2 c3 c4 c5 c6 c7) 11==0)=(!c2&& !c4&& !c5&& !c6&& !c7):=by decide+kernel
theorem not_128:∀c0 c1 c2 c3 c4 c5 c6 c7,(bits .andNot .i64 (hS c0 c1 c2 c3 c4 c5 c6 c7) 128==0)=(!c0&& !c1&& !c2&& !c3&& !c4&& !c5&& !c6):=by decide+kernel
theorem at_act {P:Program} {c:Code} {Q:Exit→Act→World→Prop} {a:Act} {w:World} (h:∀b,Hid (b=a)→c.wp P Q b w):c.wp P Q a w:=h a (Lib.hid rfl)
theorem at_worldA {C:World→Prop} {w:World} (F:World→Prop) (hF:F w) (h:∀W,F W→C W):C w:=h w hF
structure EvB (b:Act) (n:Nat) (l:List (Nat×Value)):Prop where
 size:b.tmps.size=n
 ev:∀i v,(i,v)∈l→b.eval (.tmp i)=v
theorem EvB.put {b:Act} {n:Nat} {l:List (Nat×Value)} (h:EvB b n l) (i:Nat) (v:Value) (hi:i<n) (hl:(l.all fun p=>p.1 !=i)=true):EvB (b.put (some i) v) n ((i,v)::l):=by
 refine⟨by simp[Act.put,h.size],fun j u hj=> ?_⟩
 rcases List.mem_cons.1 hj with hj|hj
 ·cases hj
  simp[Act.eval,Act.put,h.size,hi]
 ·have hne:j≠i:=by simpa using List.all_eq_true.1 hl _ hj
  have:=h.ev j u hj
  simpa[Act.eval,Act.put,Array.getElem?_setIfInBounds,Ne.symm hne] using this
theorem EvB.at {b:Act} {n i:Nat} {v:Value} {l:List (Nat×Value)} (h:EvB b n l) (k:Nat) (hk:l[k]?=some (i,v)):b.eval (.tmp i)=v:=h.ev i v (List.mem_of_getElem? hk)
theorem rangeFour {W:World} {b o:Nat} {v0 v1 v2 v3:Value} (h0:W.cell? ⟨b,o,none⟩=some v0) (h1:W.cell? ⟨b,o+1,none⟩=some v1) (h2:W.cell? ⟨b,o+2,none⟩=some v2) (h3:W.cell? ⟨b,o+3,none⟩=some v3):W.rangeAt b o [v0,v1,v2,v3]:=fun j v hv=>by
 match j,hv with
 |0,hv=>cases hv;exact h0
 |1,hv=>cases hv;exact h1
 |2,hv=>cases hv;exact h2
 |3,hv=>cases hv;exact h3
 |n+4,hv=>simp at hv
theorem thereFour {W:World} {b o:Nat} {v0 v1 v2 v3:Value} (h0:W.cell? ⟨b,o,none⟩=some v0) (h1:W.cell? ⟨b,o+1,none⟩=some v1) (h2:W.cell? ⟨b,o+2,none⟩=some v2) (h3:W.cell? ⟨b,o+3,none⟩=some v3) (hf:∀i,W.frozen? ⟨b,i,none⟩=false):W.there b o 4:=fun j hj=>by
 match j,hj with
 |0,_=>exact⟨by rw[Nat.add_zero,h0];rfl,hf _⟩
 |1,_=>exact⟨by rw[h1];rfl,hf _⟩
 |2,_=>exact⟨by rw[h2];rfl,hf _⟩
 |3,_=>exact⟨by rw[h3];rfl,hf _⟩
 |n+4,h=>omega
theorem wpList_store_at {P:Program} {ops:Array Oper} {rest:List Oper} {o:Oper} {a:Act} {w:World} {Q:Exit→Act→World→Prop} (hgd:o.guard=none) (ty:TypeId) (x y:Operand) (ho:o.op=.store ty x y) (hd:o.dst=none)
 (g f:Nat) (v:Value) (hx:a.eval x=.pointer (some ⟨g,f,none⟩)) (hy:a.eval y=v) (hrun:(Instr.storeAt ty (.pointer (some ⟨g,f,none⟩)) v).run P w=.ok () (w.setCell ⟨g,f,none⟩ v))
 (h:wpList P ops Q rest a (w.setCell ⟨g,f,none⟩ v)):wpList P ops Q (o::rest) a w:=
 wpList_plain hgd fun _ hK=>by
  unfold Oper.wp execOp
  simp only[ho,hx,hy,Sem.run_bind,hrun,Result.andThen_ok]
  have:=hK _ _ h
  unfold Oper.upon
  simp only[Sem.run_pure,hd]
  exact this
section
variable {P:Program} {ops:Array Oper} {md:Region.Mode} {Q:Exit→Act→World→Prop} {S:World→Prop}
theorem takeTo {i:Nat} {oi:Oper} {v:Value} {fuel:Nat} {listed:Array Bool} {a:Act} {w:World} (d:Option Tmp) (hi:ops[i]?=some oi) (hd:oi.dst=d)
 (hs:Region.noSelect ops=true) (hf:Region.free md ops listed i=true) (hr:(Region.ready md ops listed).contains i=true)
 (hQ:∀c a w,Q (.panic c) (a.put d v) w→Q (.panic c) a w) (hy:YieldsIf P ops S oi v a) (hS:S w)
 (h:wpAnyH P md ops Q S fuel (listed.setIfInBounds i true) (a.put d v) w):wpAnyH P md ops Q S (fuel+1) listed a w:=by
 subst hd
 exact wpAnyH_take hi hs hf hr hQ hy hS h
end
theorem yieldsF {P:Program} {S:World→Prop} {ops:Array Oper} {o:Oper} {a:Act} {v p:Value} {ty:TypeId} {x:Operand} {k:Nat} (hw:Region.wanted o (yielded ops a.tmps)=true) (ho:o.op=.fieldAddr ty x k) (hx:a.eval x=p) (hrun:∀w,(Instr.fieldAt ty p k).run P w=.ok v w):YieldsIf P ops S o v a:=
 .inl ⟨hw,fun w _=>by unfold execOp;simp only[ho,hx,Sem.run_bind,hrun w,Result.andThen_ok,Sem.run_pure]⟩
theorem yieldsL {P:Program} {S:World→Prop} {ops:Array Oper} {o:Oper} {a:Act} {v p:Value} {ty:TypeId} {x:Operand} (hw:Region.wanted o (yielded ops a.tmps)=true) (ho:o.op=.load ty x) (hx:a.eval x=p) (hrun:∀w,S w→(Instr.loadAt ty p).run P w=.ok v w):YieldsIf P ops S o v a:=
 .inl ⟨hw,fun w hw'=>by unfold execOp;simp only[ho,hx,Sem.run_bind,hrun w hw',Result.andThen_ok,Sem.run_pure]⟩
theorem BoxN.drewW {W:World} {B:Nat} {t:TypeId} {cs:Array Value} (h:BoxN W B t cs):BoxN W.drew B t cs:=h
theorem plCheck_x {op:MOp} (h:1≤op.kind∧op.kind≤12):plCheckM op=if xOp op=op then 0 else 2:=by
 obtain⟨k,o,t,s,c,n,tt,tk,w⟩:=op
 simp only at h
 have h1:k=1∨k=2∨k=3∨k=4∨k=5∨k=6∨k=7∨k=8∨k=9∨k=10∨k=11∨k=12:=by omega
 rcases h1 with rfl|rfl|rfl|rfl|rfl|rfl|rfl|rfl|rfl|rfl|rfl|rfl
 ·have hq:=not_1 (o !=0) (t !=0) (s !=0) (c !=0) (n !=0) (tt !=0) (tk !=noTk) (w !=0)
  have e:plCheckM ⟨1,o,t,s,c,n,tt,tk,w⟩=if bits .andNot .i64 (hS (o !=0) (t !=0) (s !=0) (c !=0) (n !=0) (tt !=0) (tk !=noTk) (w !=0)) 1≠0 then 2 else 0:=rfl
  rw[e]
  have hq:=(beq_iff_eq (a:=bits .andNot .i64 (hS (o !=0) (t !=0) (s !=0) (c !=0) (n !=0) (tt !=0) (tk !=noTk) (w !=0)) 1) (b:=0)).symm.trans (by rw[hq])
  simp only[Bool.and_eq_true,Bool.not_eq_true',bne_eq_false_iff_eq] at hq
  by_cases hz:bits .andNot .i64 (hS (o !=0) (t !=0) (s !=0) (c !=0) (n !=0) (tt !=0) (tk !=noTk) (w !=0)) 1=0
  ·have hz2:=hq.1 hz
   rw[if_neg (by simpa using hz),if_pos (by simp[xOp,hz2])]
  ·rw[if_pos hz,if_neg (fun h=>hz (hq.2 (by simp[xOp,eq_comm (a:=(0:Int)),eq_comm (a:=noTk)] at h;simp[h])))]
 ·have hq:=not_7 (o !=0) (t !=0) (s !=0) (c !=0) (n !=0) (tt !=0) (tk !=noTk) (w !=0)
  have e:plCheckM ⟨2,o,t,s,c,n,tt,tk,w⟩=if bits .andNot .i64 (hS (o !=0) (t !=0) (s !=0) (c !=0) (n !=0) (tt !=0) (tk !=noTk) (w !=0)) 7≠0 then 2 else 0:=rfl
  rw[e]
  have hq:=(beq_iff_eq (a:=bits .andNot .i64 (hS (o !=0) (t !=0) (s !=0) (c !=0) (n !=0) (tt !=0) (tk !=noTk) (w !=0)) 7) (b:=0)).symm.trans (by rw[hq])
  simp only[Bool.and_eq_true,Bool.not_eq_true',bne_eq_false_iff_eq] at hq
  by_cases hz:bits .andNot .i64 (hS (o !=0) (t !=0) (s !=0) (c !=0) (n !=0) (tt !=0) (tk !=noTk) (w !=0)) 7=0
  ·have hz2:=hq.1 hz
   rw[if_neg (by simpa using hz),if_pos (by simp[xOp,hz2])]
  ·rw[if_pos hz,if_neg (fun h=>hz (hq.2 (by simp[xOp,eq_comm (a:=(0:Int)),eq_comm (a:=noTk)] at h;simp[h])))]
 ·have hq:=not_27 (o !=0) (t !=0) (s !=0) (c !=0) (n !=0) (tt !=0) (tk !=noTk) (w !=0)
  have e:plCheckM ⟨3,o,t,s,c,n,tt,tk,w⟩=if bits .andNot .i64 (hS (o !=0) (t !=0) (s !=0) (c !=0) (n !=0) (tt !=0) (tk !=noTk) (w !=0)) 27≠0 then 2 else 0:=rfl
  rw[e]
  have hq:=(beq_iff_eq (a:=bits .andNot .i64 (hS (o !=0) (t !=0) (s !=0) (c !=0) (n !=0) (tt !=0) (tk !=noTk) (w !=0)) 27) (b:=0)).symm.trans (by rw[hq])
  simp only[Bool.and_eq_true,Bool.not_eq_true',bne_eq_false_iff_eq] at hq
  by_cases hz:bits .andNot .i64 (hS (o !=0) (t !=0) (s !=0) (c !=0) (n !=0) (tt !=0) (tk !=noTk) (w !=0)) 27=0
  ·have hz2:=hq.1 hz
   rw[if_neg (by simpa using hz),if_pos (by simp[xOp,hz2])]
  ·rw[if_pos hz,if_neg (fun h=>hz (hq.2 (by simp[xOp,eq_comm (a:=(0:Int)),eq_comm (a:=noTk)] at h;simp[h])))]
 ·have hq:=not_7 (o !=0) (t !=0) (s !=0) (c !=0) (n !=0) (tt !=0) (tk !=noTk) (w !=0)
  have e:plCheckM ⟨4,o,t,s,c,n,tt,tk,w⟩=if bits .andNot .i64 (hS (o !=0) (t !=0) (s !=0) (c !=0) (n !=0) (tt !=0) (tk !=noTk) (w !=0)) 7≠0 then 2 else 0:=rfl
  rw[e]
  have hq:=(beq_iff_eq (a:=bits .andNot .i64 (hS (o !=0) (t !=0) (s !=0) (c !=0) (n !=0) (tt !=0) (tk !=noTk) (w !=0)) 7) (b:=0)).symm.trans (by rw[hq])
  simp only[Bool.and_eq_true,Bool.not_eq_true',bne_eq_false_iff_eq] at hq
  by_cases hz:bits .andNot .i64 (hS (o !=0) (t !=0) (s !=0) (c !=0) (n !=0) (tt !=0) (tk !=noTk) (w !=0)) 7=0
  ·have hz2:=hq.1 hz
   rw[if_neg (by simpa using hz),if_pos (by simp[xOp,hz2])]
  ·rw[if_pos hz,if_neg (fun h=>hz (hq.2 (by simp[xOp,eq_comm (a:=(0:Int)),eq_comm (a:=noTk)] at h;simp[h])))]
 ·have hq:=not_7 (o !=0) (t !=0) (s !=0) (c !=0) (n !=0) (tt !=0) (tk !=noTk) (w !=0)
  have e:plCheckM ⟨5,o,t,s,c,n,tt,tk,w⟩=if bits .andNot .i64 (hS (o !=0) (t !=0) (s !=0) (c !=0) (n !=0) (tt !=0) (tk !=noTk) (w !=0)) 7≠0 then 2 else 0:=rfl
  rw[e]
  have hq:=(beq_iff_eq (a:=bits .andNot .i64 (hS (o !=0) (t !=0) (s !=0) (c !=0) (n !=0) (tt !=0) (tk !=noTk) (w !=0)) 7) (b:=0)).symm.trans (by rw[hq])
  simp only[Bool.and_eq_true,Bool.not_eq_true',bne_eq_false_iff_eq] at hq
  by_cases hz:bits .andNot .i64 (hS (o !=0) (t !=0) (s !=0) (c !=0) (n !=0) (tt !=0) (tk !=noTk) (w !=0)) 7=0
  ·have hz2:=hq.1 hz
   rw[if_neg (by simpa using hz),if_pos (by simp[xOp,hz2])]
  ·rw[if_pos hz,if_neg (fun h=>hz (hq.2 (by simp[xOp,eq_comm (a:=(0:Int)),eq_comm (a:=noTk)] at h;simp[h])))]
 ·have hq:=not_99 (o !=0) (t !=0) (s !=0) (c !=0) (n !=0) (tt !=0) (tk !=noTk) (w !=0)
  have e:plCheckM ⟨6,o,t,s,c,n,tt,tk,w⟩=if bits .andNot .i64 (hS (o !=0) (t !=0) (s !=0) (c !=0) (n !=0) (tt !=0) (tk !=noTk) (w !=0)) 99≠0 then 2 else 0:=rfl
  rw[e]
  have hq:=(beq_iff_eq (a:=bits .andNot .i64 (hS (o !=0) (t !=0) (s !=0) (c !=0) (n !=0) (tt !=0) (tk !=noTk) (w !=0)) 99) (b:=0)).symm.trans (by rw[hq])
  simp only[Bool.and_eq_true,Bool.not_eq_true',bne_eq_false_iff_eq] at hq
  by_cases hz:bits .andNot .i64 (hS (o !=0) (t !=0) (s !=0) (c !=0) (n !=0) (tt !=0) (tk !=noTk) (w !=0)) 99=0
  ·have hz2:=hq.1 hz
   rw[if_neg (by simpa using hz),if_pos (by simp[xOp,hz2])]
  ·rw[if_pos hz,if_neg (fun h=>hz (hq.2 (by simp[xOp,eq_comm (a:=(0:Int))] at h;simp[h])))]
 ·have hq:=not_67 (o !=0) (t !=0) (s !=0) (c !=0) (n !=0) (tt !=0) (tk !=noTk) (w !=0)
  have e:plCheckM ⟨7,o,t,s,c,n,tt,tk,w⟩=if bits .andNot .i64 (hS (o !=0) (t !=0) (s !=0) (c !=0) (n !=0) (tt !=0) (tk !=noTk) (w !=0)) 67≠0 then 2 else 0:=rfl
  rw[e]
  have hq:=(beq_iff_eq (a:=bits .andNot .i64 (hS (o !=0) (t !=0) (s !=0) (c !=0) (n !=0) (tt !=0) (tk !=noTk) (w !=0)) 67) (b:=0)).symm.trans (by rw[hq])
  simp only[Bool.and_eq_true,Bool.not_eq_true',bne_eq_false_iff_eq] at hq
  by_cases hz:bits .andNot .i64 (hS (o !=0) (t !=0) (s !=0) (c !=0) (n !=0) (tt !=0) (tk !=noTk) (w !=0)) 67=0
  ·have hz2:=hq.1 hz
   rw[if_neg (by simpa using hz),if_pos (by simp[xOp,hz2])]
  ·rw[if_pos hz,if_neg (fun h=>hz (hq.2 (by simp[xOp,eq_comm (a:=(0:Int))] at h;simp[h])))]
 ·have hq:=not_7 (o !=0) (t !=0) (s !=0) (c !=0) (n !=0) (tt !=0) (tk !=noTk) (w !=0)
  have e:plCheckM ⟨8,o,t,s,c,n,tt,tk,w⟩=if bits .andNot .i64 (hS (o !=0) (t !=0) (s !=0) (c !=0) (n !=0) (tt !=0) (tk !=noTk) (w !=0)) 7≠0 then 2 else 0:=rfl
  rw[e]
  have hq:=(beq_iff_eq (a:=bits .andNot .i64 (hS (o !=0) (t !=0) (s !=0) (c !=0) (n !=0) (tt !=0) (tk !=noTk) (w !=0)) 7) (b:=0)).symm.trans (by rw[hq])
  simp only[Bool.and_eq_true,Bool.not_eq_true',bne_eq_false_iff_eq] at hq
  by_cases hz:bits .andNot .i64 (hS (o !=0) (t !=0) (s !=0) (c !=0) (n !=0) (tt !=0) (tk !=noTk) (w !=0)) 7=0
  ·have hz2:=hq.1 hz
   rw[if_neg (by simpa using hz),if_pos (by simp[xOp,hz2])]
  ·rw[if_pos hz,if_neg (fun h=>hz (hq.2 (by simp[xOp,eq_comm (a:=(0:Int)),eq_comm (a:=noTk)] at h;simp[h])))]
 ·have hq:=not_64 (o !=0) (t !=0) (s !=0) (c !=0) (n !=0) (tt !=0) (tk !=noTk) (w !=0)
  have e:plCheckM ⟨9,o,t,s,c,n,tt,tk,w⟩=if bits .andNot .i64 (hS (o !=0) (t !=0) (s !=0) (c !=0) (n !=0) (tt !=0) (tk !=noTk) (w !=0)) 64≠0 then 2 else 0:=rfl
  rw[e]
  have hq:=(beq_iff_eq (a:=bits .andNot .i64 (hS (o !=0) (t !=0) (s !=0) (c !=0) (n !=0) (tt !=0) (tk !=noTk) (w !=0)) 64) (b:=0)).symm.trans (by rw[hq])
  simp only[Bool.and_eq_true,Bool.not_eq_true',bne_eq_false_iff_eq] at hq
  by_cases hz:bits .andNot .i64 (hS (o !=0) (t !=0) (s !=0) (c !=0) (n !=0) (tt !=0) (tk !=noTk) (w !=0)) 64=0
  ·have hz2:=hq.1 hz
   rw[if_neg (by simpa using hz),if_pos (by simp[xOp,hz2])]
  ·rw[if_pos hz,if_neg (fun h=>hz (hq.2 (by simp[xOp,eq_comm (a:=(0:Int))] at h;simp[h])))]
 ·have hq:=not_11 (o !=0) (t !=0) (s !=0) (c !=0) (n !=0) (tt !=0) (tk !=noTk) (w !=0)
  have e:plCheckM ⟨10,o,t,s,c,n,tt,tk,w⟩=if bits .andNot .i64 (hS (o !=0) (t !=0) (s !=0) (c !=0) (n !=0) (tt !=0) (tk !=noTk) (w !=0)) 11≠0 then 2 else 0:=rfl
  rw[e]
  have hq:=(beq_iff_eq (a:=bits .andNot .i64 (hS (o !=0) (t !=0) (s !=0) (c !=0) (n !=0) (tt !=0) (tk !=noTk) (w !=0)) 11) (b:=0)).symm.trans (by rw[hq])
  simp only[Bool.and_eq_true,Bool.not_eq_true',bne_eq_false_iff_eq] at hq
  by_cases hz:bits .andNot .i64 (hS (o !=0) (t !=0) (s !=0) (c !=0) (n !=0) (tt !=0) (tk !=noTk) (w !=0)) 11=0
  ·have hz2:=hq.1 hz
   rw[if_neg (by simpa using hz),if_pos (by simp[xOp,hz2])]
  ·rw[if_pos hz,if_neg (fun h=>hz (hq.2 (by simp[xOp,eq_comm (a:=(0:Int)),eq_comm (a:=noTk)] at h;simp[h])))]
 ·have hq:=not_11 (o !=0) (t !=0) (s !=0) (c !=0) (n !=0) (tt !=0) (tk !=noTk) (w !=0)
  have e:plCheckM ⟨11,o,t,s,c,n,tt,tk,w⟩=if bits .andNot .i64 (hS (o !=0) (t !=0) (s !=0) (c !=0) (n !=0) (tt !=0) (tk !=noTk) (w !=0)) 11≠0 then 2 else 0:=rfl
  rw[e]
  have hq:=(beq_iff_eq (a:=bits .andNot .i64 (hS (o !=0) (t !=0) (s !=0) (c !=0) (n !=0) (tt !=0) (tk !=noTk) (w !=0)) 11) (b:=0)).symm.trans (by rw[hq])
  simp only[Bool.and_eq_true,Bool.not_eq_true',bne_eq_false_iff_eq] at hq
  by_cases hz:bits .andNot .i64 (hS (o !=0) (t !=0) (s !=0) (c !=0) (n !=0) (tt !=0) (tk !=noTk) (w !=0)) 11=0
  ·have hz2:=hq.1 hz
   rw[if_neg (by simpa using hz),if_pos (by simp[xOp,hz2])]
  ·rw[if_pos hz,if_neg (fun h=>hz (hq.2 (by simp[xOp,eq_comm (a:=(0:Int)),eq_comm (a:=noTk)] at h;simp[h])))]
 ·have hq:=not_128 (o !=0) (t !=0) (s !=0) (c !=0) (n !=0) (tt !=0) (tk !=noTk) (w !=0)
  have e:plCheckM ⟨12,o,t,s,c,n,tt,tk,w⟩=if bits .andNot .i64 (hS (o !=0) (t !=0) (s !=0) (c !=0) (n !=0) (tt !=0) (tk !=noTk) (w !=0)) 128≠0 then 2 else 0:=rfl
  rw[e]
  have hq:=(beq_iff_eq (a:=bits .andNot .i64 (hS (o !=0) (t !=0) (s !=0) (c !=0) (n !=0) (tt !=0) (tk !=noTk) (w !=0)) 128) (b:=0)).symm.trans (by rw[hq])
  simp only[Bool.and_eq_true,Bool.not_eq_true',bne_eq_false_iff_eq] at hq
  by_cases hz:bits .andNot .i64 (hS (o !=0) (t !=0) (s !=0) (c !=0) (n !=0) (tt !=0) (tk !=noTk) (w !=0)) 128=0
  ·have hz2:=hq.1 hz
   rw[if_neg (by simpa using hz),if_pos (by simp[xOp,hz2])]
  ·rw[if_pos hz,if_neg (fun h=>hz (hq.2 (by simp[xOp,eq_comm (a:=(0:Int)),eq_comm (a:=noTk)] at h;simp[h])))]
set_option maxHeartbeats 8000000 in
set_option maxRecDepth 20000 in
theorem rPlCheck_any (op:MOp) (w:World):
 Calls Tryz.prog 34 #[.agg (opCells op).toArray] w fun e w'=>e=.returned (.int .i64 (plCheckM op))∧Below w.heap.size w w':=by
 have hx:=Lib.hid (@plCheck_x op)
 have hM:=Lib.hid (show plCheckM op=if op.kind<1∨12<op.kind then 2 else if bits .andNot .i64 (hasM op) (usesK op.kind)≠0 then 2 else 0 from rfl)
 generalize plCheckM op=M at hx hM⊢
 obtain⟨k,oo,ti,se,sc,nn,tt,⟨a,b,c,d⟩,nw⟩:=op
 unfold opCells
 simp only at hx hM⊢
 go_enter Tryz.func34,Tryz.ntmps34
 go_upto_block 0 with fail
 obtain⟨q,hq⟩:∃q,w.heap.size=q:=⟨_,rfl⟩
 rw[hq]
 refine at_world (fun X=>Below w.heap.size w X∧BoxN X q 46 #[.int .i64 k,.int .u32 oo,.int .i64 ti,.int .i64 se,.int .i64 sc,.int .i64 nn,.int .u32 tt,.int .u32 a,.int .u32 b,.int .u64 c,.int .u64 d,.int .i64 nw]∧BoxN X (q+1) 46 #[.int .i64 k,.int .u32 0,.int .i64 0,.int .i64 0,.int .i64 0,.int .i64 0,.int .u32 0,.int .u32 0,.int .u32 0,.int .u64 0,.int .u64 0,.int .i64 0]) (two_boxes hq _ _ _ _) fun w1 hw1=> ?_
 have B1:=Lib.hid hw1.1
 have K1:=Lib.hid hw1.2.1
 have L1:=Lib.hid hw1.2.2
 have o0:=hw1.2.1.cell 0 _ rfl
 have o1:=hw1.2.1.cell 1 _ rfl
 have o2:=hw1.2.1.cell 2 _ rfl
 have o3:=hw1.2.1.cell 3 _ rfl
 have o4:=hw1.2.1.cell 4 _ rfl
 have o5:=hw1.2.1.cell 5 _ rfl
 have o6:=hw1.2.1.cell 6 _ rfl
 have o7:=hw1.2.1.cell 7 _ rfl
 have o8:=hw1.2.1.cell 8 _ rfl
 have o9:=hw1.2.1.cell 9 _ rfl
 have o10:=hw1.2.1.cell 10 _ rfl
 have o11:=hw1.2.1.cell 11 _ rfl
 have zo:=hw1.2.1.lt
 have l1:=hw1.2.2.cell 1 _ rfl
 have l2:=hw1.2.2.cell 2 _ rfl
 have l3:=hw1.2.2.cell 3 _ rfl
 have l4:=hw1.2.2.cell 4 _ rfl
 have l5:=hw1.2.2.cell 5 _ rfl
 have l6:=hw1.2.2.cell 6 _ rfl
 have l7:=hw1.2.2.cell 7 _ rfl
 have l8:=hw1.2.2.cell 8 _ rfl
 have l9:=hw1.2.2.cell 9 _ rfl
 have l10:=hw1.2.2.cell 10 _ rfl
 have l11:=hw1.2.2.cell 11 _ rfl
 have fz:=hw1.2.2.frozen
 have zl:=hw1.2.2.lt
 clear hw1
 go_cut [] from 9 (fun W=>Hid (Below w.heap.size w W)∧Hid (BoxN W q 46 #[.int .i64 k,.int .u32 oo,.int .i64 ti,.int .i64 se,.int .i64 sc,.int .i64 nn,.int .u32 tt,.int .u32 a,.int .u32 b,.int .u64 c,.int .u64 d,.int .i64 nw])∧Hid (BoxN W (q+1) 46 (opCells (xOp ⟨k,oo,ti,se,sc,nn,tt,⟨a,b,c,d⟩,nw⟩)).toArray)∧(1≤k∧k≤12))
 case first=>
  by_cases hr:1≤k∧k≤12
  case neg=>
   have hM2:M=2:=by rw[hM.out,if_pos (by omega)]
   have t1:(k==1)=false:=by simp;omega
   have t2:(k==2)=false:=by simp;omega
   have t3:(k==3)=false:=by simp;omega
   have t4:(k==4)=false:=by simp;omega
   have t5:(k==5)=false:=by simp;omega
   have t6:(k==6)=false:=by simp;omega
   have t7:(k==7)=false:=by simp;omega
   have t8:(k==8)=false:=by simp;omega
   have t9:(k==9)=false:=by simp;omega
   have t10:(k==10)=false:=by simp;omega
   have t11:(k==11)=false:=by simp;omega
   have t12:(k==12)=false:=by simp;omega
   clear hM hx hr
   go_wp2_with fail
   go_ret
   exact⟨by rw[hM2];rfl,by first|exact B1.out|(rw[←hq];exact B1.out)⟩
  have hk:k=1∨k=2∨k=3∨k=4∨k=5∨k=6∨k=7∨k=8∨k=9∨k=10∨k=11∨k=12:=by omega
  have hle:w.heap.size≤q+1:=by omega
  clear hM hx hr
  rcases hk with rfl|rfl|rfl|rfl|rfl|rfl|rfl|rfl|rfl|rfl|rfl|rfl
  ·as_aux_lemma=>
   go_wp2_with fail
   have hb1:=B1.out.setCell (p:=⟨q+1,1,none⟩) (by dsimp only;omega) (.int .u32 oo)
   have hk1:=K1.out.other (B':=q+1) (i:=1) (by omega) (.int .u32 oo)
   have hl1:BoxN _ (q+1) 46 #[.int .i64 1,.int .u32 oo,.int .i64 0,.int .i64 0,.int .i64 0,.int .i64 0,.int .u32 0,.int .u32 0,.int .u32 0,.int .u64 0,.int .u64 0,.int .i64 0]:=L1.out.set 1 (.int .u32 oo)
   have he:(opCells (xOp ⟨1,oo,ti,se,sc,nn,tt,⟨a,b,c,d⟩,nw⟩)).toArray=#[.int .i64 1,.int .u32 oo,.int .i64 0,.int .i64 0,.int .i64 0,.int .i64 0,.int .u32 0,.int .u32 0,.int .u32 0,.int .u64 0,.int .u64 0,.int .i64 0]:=by simp[xOp,opCells,noTk]
   go_meet
   rw[he]
   exact⟨Lib.hid (hb1),Lib.hid (hk1),Lib.hid (hl1),by omega,by omega⟩
  ·as_aux_lemma=>
   go_upto_region 10 with fail
   go_region
   go_wp2_with fail
   have hb1:=B1.out.setCell (p:=⟨q+1,1,none⟩) (by dsimp only;omega) (.int .u32 oo)
   have hk1:=K1.out.other (B':=q+1) (i:=1) (by omega) (.int .u32 oo)
   have hl1:BoxN _ (q+1) 46 #[.int .i64 2,.int .u32 oo,.int .i64 0,.int .i64 0,.int .i64 0,.int .i64 0,.int .u32 0,.int .u32 0,.int .u32 0,.int .u64 0,.int .u64 0,.int .i64 0]:=L1.out.set 1 (.int .u32 oo)
   have hb2:=hb1.setCell (p:=⟨q+1,2,none⟩) (by dsimp only;omega) (.int .i64 ti)
   have hk2:=hk1.other (B':=q+1) (i:=2) (by omega) (.int .i64 ti)
   have hl2:BoxN _ (q+1) 46 #[.int .i64 2,.int .u32 oo,.int .i64 ti,.int .i64 0,.int .i64 0,.int .i64 0,.int .u32 0,.int .u32 0,.int .u32 0,.int .u64 0,.int .u64 0,.int .i64 0]:=hl1.set 2 (.int .i64 ti)
   have hb3:=hb2.setCell (p:=⟨q+1,3,none⟩) (by dsimp only;omega) (.int .i64 se)
   have hk3:=hk2.other (B':=q+1) (i:=3) (by omega) (.int .i64 se)
   have hl3:BoxN _ (q+1) 46 #[.int .i64 2,.int .u32 oo,.int .i64 ti,.int .i64 se,.int .i64 0,.int .i64 0,.int .u32 0,.int .u32 0,.int .u32 0,.int .u64 0,.int .u64 0,.int .i64 0]:=hl2.set 3 (.int .i64 se)
   have he:(opCells (xOp ⟨2,oo,ti,se,sc,nn,tt,⟨a,b,c,d⟩,nw⟩)).toArray=#[.int .i64 2,.int .u32 oo,.int .i64 ti,.int .i64 se,.int .i64 0,.int .i64 0,.int .u32 0,.int .u32 0,.int .u32 0,.int .u64 0,.int .u64 0,.int .i64 0]:=by simp[xOp,opCells,noTk]
   go_meet
   rw[he]
   exact⟨Lib.hid (bdd hb3),Lib.hid (BoxN.drewW hk3),Lib.hid (BoxN.drewW hl3),by omega,by omega⟩
  ·as_aux_lemma=>
   go_upto_region 12 with fail
   go_region
   go_wp2_with fail
   have hb1:=B1.out.setCell (p:=⟨q+1,1,none⟩) (by dsimp only;omega) (.int .u32 oo)
   have hk1:=K1.out.other (B':=q+1) (i:=1) (by omega) (.int .u32 oo)
   have hl1:BoxN _ (q+1) 46 #[.int .i64 3,.int .u32 oo,.int .i64 0,.int .i64 0,.int .i64 0,.int .i64 0,.int .u32 0,.int .u32 0,.int .u32 0,.int .u64 0,.int .u64 0,.int .i64 0]:=L1.out.set 1 (.int .u32 oo)
   have hb2:=hb1.setCell (p:=⟨q+1,2,none⟩) (by dsimp only;omega) (.int .i64 ti)
   have hk2:=hk1.other (B':=q+1) (i:=2) (by omega) (.int .i64 ti)
   have hl2:BoxN _ (q+1) 46 #[.int .i64 3,.int .u32 oo,.int .i64 ti,.int .i64 0,.int .i64 0,.int .i64 0,.int .u32 0,.int .u32 0,.int .u32 0,.int .u64 0,.int .u64 0,.int .i64 0]:=hl1.set 2 (.int .i64 ti)
   have hb4:=hb2.setCell (p:=⟨q+1,4,none⟩) (by dsimp only;omega) (.int .i64 sc)
   have hk4:=hk2.other (B':=q+1) (i:=4) (by omega) (.int .i64 sc)
   have hl4:BoxN _ (q+1) 46 #[.int .i64 3,.int .u32 oo,.int .i64 ti,.int .i64 0,.int .i64 sc,.int .i64 0,.int .u32 0,.int .u32 0,.int .u32 0,.int .u64 0,.int .u64 0,.int .i64 0]:=hl2.set 4 (.int .i64 sc)
   have hb5:=hb4.setCell (p:=⟨q+1,5,none⟩) (by dsimp only;omega) (.int .i64 nn)
   have hk5:=hk4.other (B':=q+1) (i:=5) (by omega) (.int .i64 nn)
   have hl5:BoxN _ (q+1) 46 #[.int .i64 3,.int .u32 oo,.int .i64 ti,.int .i64 0,.int .i64 sc,.int .i64 nn,.int .u32 0,.int .u32 0,.int .u32 0,.int .u64 0,.int .u64 0,.int .i64 0]:=hl4.set 5 (.int .i64 nn)
   have he:(opCells (xOp ⟨3,oo,ti,se,sc,nn,tt,⟨a,b,c,d⟩,nw⟩)).toArray=#[.int .i64 3,.int .u32 oo,.int .i64 ti,.int .i64 0,.int .i64 sc,.int .i64 nn,.int .u32 0,.int .u32 0,.int .u32 0,.int .u64 0,.int .u64 0,.int .i64 0]:=by simp[xOp,opCells,noTk]
   go_meet
   rw[he]
   exact⟨Lib.hid (bdd hb5),Lib.hid (BoxN.drewW hk5),Lib.hid (BoxN.drewW hl5),by omega,by omega⟩
  ·as_aux_lemma=>
   go_upto_region 10 with fail
   go_region
   go_wp2_with fail
   have hb1:=B1.out.setCell (p:=⟨q+1,1,none⟩) (by dsimp only;omega) (.int .u32 oo)
   have hk1:=K1.out.other (B':=q+1) (i:=1) (by omega) (.int .u32 oo)
   have hl1:BoxN _ (q+1) 46 #[.int .i64 4,.int .u32 oo,.int .i64 0,.int .i64 0,.int .i64 0,.int .i64 0,.int .u32 0,.int .u32 0,.int .u32 0,.int .u64 0,.int .u64 0,.int .i64 0]:=L1.out.set 1 (.int .u32 oo)
   have hb2:=hb1.setCell (p:=⟨q+1,2,none⟩) (by dsimp only;omega) (.int .i64 ti)
   have hk2:=hk1.other (B':=q+1) (i:=2) (by omega) (.int .i64 ti)
   have hl2:BoxN _ (q+1) 46 #[.int .i64 4,.int .u32 oo,.int .i64 ti,.int .i64 0,.int .i64 0,.int .i64 0,.int .u32 0,.int .u32 0,.int .u32 0,.int .u64 0,.int .u64 0,.int .i64 0]:=hl1.set 2 (.int .i64 ti)
   have hb3:=hb2.setCell (p:=⟨q+1,3,none⟩) (by dsimp only;omega) (.int .i64 se)
   have hk3:=hk2.other (B':=q+1) (i:=3) (by omega) (.int .i64 se)
   have hl3:BoxN _ (q+1) 46 #[.int .i64 4,.int .u32 oo,.int .i64 ti,.int .i64 se,.int .i64 0,.int .i64 0,.int .u32 0,.int .u32 0,.int .u32 0,.int .u64 0,.int .u64 0,.int .i64 0]:=hl2.set 3 (.int .i64 se)
   have he:(opCells (xOp ⟨4,oo,ti,se,sc,nn,tt,⟨a,b,c,d⟩,nw⟩)).toArray=#[.int .i64 4,.int .u32 oo,.int .i64 ti,.int .i64 se,.int .i64 0,.int .i64 0,.int .u32 0,.int .u32 0,.int .u32 0,.int .u64 0,.int .u64 0,.int .i64 0]:=by simp[xOp,opCells,noTk]
   go_meet
   rw[he]
   exact⟨Lib.hid (bdd hb3),Lib.hid (BoxN.drewW hk3),Lib.hid (BoxN.drewW hl3),by omega,by omega⟩
  ·as_aux_lemma=>
   go_upto_region 10 with fail
   go_region
   go_wp2_with fail
   have hb1:=B1.out.setCell (p:=⟨q+1,1,none⟩) (by dsimp only;omega) (.int .u32 oo)
   have hk1:=K1.out.other (B':=q+1) (i:=1) (by omega) (.int .u32 oo)
   have hl1:BoxN _ (q+1) 46 #[.int .i64 5,.int .u32 oo,.int .i64 0,.int .i64 0,.int .i64 0,.int .i64 0,.int .u32 0,.int .u32 0,.int .u32 0,.int .u64 0,.int .u64 0,.int .i64 0]:=L1.out.set 1 (.int .u32 oo)
   have hb2:=hb1.setCell (p:=⟨q+1,2,none⟩) (by dsimp only;omega) (.int .i64 ti)
   have hk2:=hk1.other (B':=q+1) (i:=2) (by omega) (.int .i64 ti)
   have hl2:BoxN _ (q+1) 46 #[.int .i64 5,.int .u32 oo,.int .i64 ti,.int .i64 0,.int .i64 0,.int .i64 0,.int .u32 0,.int .u32 0,.int .u32 0,.int .u64 0,.int .u64 0,.int .i64 0]:=hl1.set 2 (.int .i64 ti)
   have hb3:=hb2.setCell (p:=⟨q+1,3,none⟩) (by dsimp only;omega) (.int .i64 se)
   have hk3:=hk2.other (B':=q+1) (i:=3) (by omega) (.int .i64 se)
   have hl3:BoxN _ (q+1) 46 #[.int .i64 5,.int .u32 oo,.int .i64 ti,.int .i64 se,.int .i64 0,.int .i64 0,.int .u32 0,.int .u32 0,.int .u32 0,.int .u64 0,.int .u64 0,.int .i64 0]:=hl2.set 3 (.int .i64 se)
   have he:(opCells (xOp ⟨5,oo,ti,se,sc,nn,tt,⟨a,b,c,d⟩,nw⟩)).toArray=#[.int .i64 5,.int .u32 oo,.int .i64 ti,.int .i64 se,.int .i64 0,.int .i64 0,.int .u32 0,.int .u32 0,.int .u32 0,.int .u64 0,.int .u64 0,.int .i64 0]:=by simp[xOp,opCells,noTk]
   go_meet
   rw[he]
   exact⟨Lib.hid (bdd hb3),Lib.hid (BoxN.drewW hk3),Lib.hid (BoxN.drewW hl3),by omega,by omega⟩
  ·as_aux_lemma=>
   go_upto_region 14 with fail
   clear o0 o1 o2 o3 o4 o5 o6 o7 o8 o9 o10 o11 zo l1 l2 l3 l4 l5 l6 l7 l8 l9 l10 l11 fz zl
   refine at_act fun bb hb=> ?_
   have E:=Lib.hid (show EvB bb 92 [(1,.pointer (some ⟨q,0,none⟩)),(3,.pointer (some ⟨q+1,0,none⟩))] from⟨by rw[hb.out];rfl,fun i v h=>by rw[hb.out];simp only[List.mem_cons,List.not_mem_nil,or_false,Prod.mk.injEq] at h;rcases h with⟨rfl,rfl⟩|⟨rfl,rfl⟩<;>rfl⟩)
   refine wp_region_held (S:=fun X=>Below w.heap.size w X∧BoxN X q 46 #[.int .i64 6,.int .u32 oo,.int .i64 ti,.int .i64 se,.int .i64 sc,.int .i64 nn,.int .u32 tt,.int .u32 a,.int .u32 b,.int .u64 c,.int .u64 d,.int .i64 nw]) (by kernel_rfl) ?_
   refine at_world (fun X=>(Below w.heap.size w X∧BoxN X q 46 #[.int .i64 6,.int .u32 oo,.int .i64 ti,.int .i64 se,.int .i64 sc,.int .i64 nn,.int .u32 tt,.int .u32 a,.int .u32 b,.int .u64 c,.int .u64 d,.int .i64 nw])∧BoxN X (q+1) 46 #[.int .i64 6,.int .u32 0,.int .i64 0,.int .i64 0,.int .i64 0,.int .i64 0,.int .u32 0,.int .u32 0,.int .u32 0,.int .u64 0,.int .u64 0,.int .i64 0]) ⟨⟨bdd B1.out,BoxN.drewW K1.out⟩,BoxN.drewW L1.out⟩ fun y0 hy=> ?_
   have HS0:=hy.1
   have L20:=Lib.hid hy.2
   clear hy B1 K1 L1
   refine takeTo (i:=0) (v:=.pointer (some ⟨q,1,none⟩)) (some 44) rfl rfl (by decide+kernel) (by decide+kernel) (by decide+kernel) (fun _ _ _ h=>h) (yieldsF rfl rfl (E.out.at 0 rfl) (fun W=>by kernel_rfl)) HS0 ?_
   replace E:=Lib.hid (E.out.put 44 (.pointer (some ⟨q,1,none⟩)) (by decide) rfl)
   refine takeTo (i:=1) (v:=.int .u32 oo) (some 45) rfl rfl (by decide+kernel) (by decide+kernel) (by decide+kernel) (fun _ _ _ h=>h) (yieldsL rfl rfl (E.out.at 0 rfl) (fun W hS=>by(have cf:=hS.2.cell 1 _ rfl;have zw:=hS.2.lt;clear hS;go_simp))) HS0 ?_
   replace E:=Lib.hid (E.out.put 45 (.int .u32 oo) (by decide) rfl)
   refine takeTo (i:=2) (v:=.pointer (some ⟨q,2,none⟩)) (some 46) rfl rfl (by decide+kernel) (by decide+kernel) (by decide+kernel) (fun _ _ _ h=>h) (yieldsF rfl rfl (E.out.at 2 rfl) (fun W=>by kernel_rfl)) HS0 ?_
   replace E:=Lib.hid (E.out.put 46 (.pointer (some ⟨q,2,none⟩)) (by decide) rfl)
   refine takeTo (i:=3) (v:=.int .i64 ti) (some 47) rfl rfl (by decide+kernel) (by decide+kernel) (by decide+kernel) (fun _ _ _ h=>h) (yieldsL rfl rfl (E.out.at 0 rfl) (fun W hS=>by(have cf:=hS.2.cell 2 _ rfl;have zw:=hS.2.lt;clear hS;go_simp))) HS0 ?_
   replace E:=Lib.hid (E.out.put 47 (.int .i64 ti) (by decide) rfl)
   refine takeTo (i:=4) (v:=.pointer (some ⟨q,6,none⟩)) (some 48) rfl rfl (by decide+kernel) (by decide+kernel) (by decide+kernel) (fun _ _ _ h=>h) (yieldsF rfl rfl (E.out.at 4 rfl) (fun W=>by kernel_rfl)) HS0 ?_
   replace E:=Lib.hid (E.out.put 48 (.pointer (some ⟨q,6,none⟩)) (by decide) rfl)
   refine takeTo (i:=5) (v:=.int .u32 tt) (some 49) rfl rfl (by decide+kernel) (by decide+kernel) (by decide+kernel) (fun _ _ _ h=>h) (yieldsL rfl rfl (E.out.at 0 rfl) (fun W hS=>by(have cf:=hS.2.cell 6 _ rfl;have zw:=hS.2.lt;clear hS;go_simp))) HS0 ?_
   replace E:=Lib.hid (E.out.put 49 (.int .u32 tt) (by decide) rfl)
   refine takeTo (i:=6) (v:=.pointer (some ⟨q,7,none⟩)) (some 50) rfl rfl (by decide+kernel) (by decide+kernel) (by decide+kernel) (fun _ _ _ h=>h) (yieldsF rfl rfl (E.out.at 6 rfl) (fun W=>by kernel_rfl)) HS0 ?_
   replace E:=Lib.hid (E.out.put 50 (.pointer (some ⟨q,7,none⟩)) (by decide) rfl)
   refine takeTo (i:=7) (v:=.agg #[.int .u32 a,.int .u32 b,.int .u64 c,.int .u64 d]) (some 51) rfl rfl (by decide+kernel) (by decide+kernel) (by decide+kernel) (fun _ _ _ h=>h) (yieldsIf_load_mid rfl 44 (.tmp 50) rfl q 7 (E.out.at 0 rfl) [.int .u32 a,.int .u32 b,.int .u64 c,.int .u64 d] _ (fun W hS=>rangeFour (hS.2.cell 7 _ rfl) (hS.2.cell 8 _ rfl) (hS.2.cell 9 _ rfl) (hS.2.cell 10 _ rfl)) Tryz.underlying44 rfl (by kernel_rfl)) HS0 ?_
   replace E:=Lib.hid (E.out.put 51 (.agg #[.int .u32 a,.int .u32 b,.int .u64 c,.int .u64 d]) (by decide) rfl)
   refine takeTo (i:=8) (v:=.pointer (some ⟨q+1,1,none⟩)) (some 52) rfl rfl (by decide+kernel) (by decide+kernel) (by decide+kernel) (fun _ _ _ h=>h) (yieldsF rfl rfl (E.out.at 9 rfl) (fun W=>by kernel_rfl)) HS0 ?_
   replace E:=Lib.hid (E.out.put 52 (.pointer (some ⟨q+1,1,none⟩)) (by decide) rfl)
   refine wpAnyH_all (rs:=[9]) (by kernel_rfl) (by simp) fun j hj=> ?_
   obtain rfl:j=9:=by simpa using hj
   clear hj
   refine heldOp rfl fun K hK=> ?_
   have l1:=L20.out.cell 1 _ rfl
   have fz:=L20.out.frozen
   have zl:=L20.out.lt
   refine wpList_store_at rfl 41 (.tmp 52) (.tmp 45) rfl rfl (q+1) 1 (.int .u32 oo) (E.out.at 0 rfl) (E.out.at 7 rfl) (by have f1:=fz 1;go_simp) ?_
   clear l1 fz zl
   have hb1:=HS0.1.setCell (p:=⟨q+1,1,none⟩) (by dsimp only;omega) (.int .u32 oo)
   have hk1:=HS0.2.other (B':=q+1) (i:=1) (by omega) (.int .u32 oo)
   have hl1:BoxN _ (q+1) 46 #[.int .i64 6,.int .u32 oo,.int .i64 0,.int .i64 0,.int .i64 0,.int .i64 0,.int .u32 0,.int .u32 0,.int .u32 0,.int .u64 0,.int .u64 0,.int .i64 0]:=L20.out.set 1 (.int .u32 oo)
   refine hK.out _ _ ⟨⟨hb1,hk1⟩, ?_⟩
   clear hK K
   refine at_worldA (fun X=>(Below w.heap.size w X∧BoxN X q 46 #[.int .i64 6,.int .u32 oo,.int .i64 ti,.int .i64 se,.int .i64 sc,.int .i64 nn,.int .u32 tt,.int .u32 a,.int .u32 b,.int .u64 c,.int .u64 d,.int .i64 nw])∧BoxN X (q+1) 46 #[.int .i64 6,.int .u32 oo,.int .i64 0,.int .i64 0,.int .i64 0,.int .i64 0,.int .u32 0,.int .u32 0,.int .u32 0,.int .u64 0,.int .u64 0,.int .i64 0]) ⟨⟨hb1,hk1⟩,hl1⟩ fun y1 hy=> ?_
   clear hb1 hk1 hl1
   have HS1:=hy.1
   have L21:=Lib.hid hy.2
   clear hy HS0 L20
   refine takeTo (i:=10) (v:=.pointer (some ⟨q+1,2,none⟩)) (some 53) rfl rfl (by decide+kernel) (by decide+kernel) (by decide+kernel) (fun _ _ _ h=>h) (yieldsF rfl rfl (E.out.at 10 rfl) (fun W=>by kernel_rfl)) HS1 ?_
   replace E:=Lib.hid (E.out.put 53 (.pointer (some ⟨q+1,2,none⟩)) (by decide) rfl)
   refine wpAnyH_all (rs:=[11]) (by kernel_rfl) (by simp) fun j hj=> ?_
   obtain rfl:j=11:=by simpa using hj
   clear hj
   refine heldOp rfl fun K hK=> ?_
   have l2:=L21.out.cell 2 _ rfl
   have fz:=L21.out.frozen
   have zl:=L21.out.lt
   refine wpList_store_at rfl 2 (.tmp 53) (.tmp 47) rfl rfl (q+1) 2 (.int .i64 ti) (E.out.at 0 rfl) (E.out.at 6 rfl) (by have f2:=fz 2;go_simp) ?_
   clear l2 fz zl
   have hb2:=HS1.1.setCell (p:=⟨q+1,2,none⟩) (by dsimp only;omega) (.int .i64 ti)
   have hk2:=HS1.2.other (B':=q+1) (i:=2) (by omega) (.int .i64 ti)
   have hl2:BoxN _ (q+1) 46 #[.int .i64 6,.int .u32 oo,.int .i64 ti,.int .i64 0,.int .i64 0,.int .i64 0,.int .u32 0,.int .u32 0,.int .u32 0,.int .u64 0,.int .u64 0,.int .i64 0]:=L21.out.set 2 (.int .i64 ti)
   refine hK.out _ _ ⟨⟨hb2,hk2⟩, ?_⟩
   clear hK K
   refine at_worldA (fun X=>(Below w.heap.size w X∧BoxN X q 46 #[.int .i64 6,.int .u32 oo,.int .i64 ti,.int .i64 se,.int .i64 sc,.int .i64 nn,.int .u32 tt,.int .u32 a,.int .u32 b,.int .u64 c,.int .u64 d,.int .i64 nw])∧BoxN X (q+1) 46 #[.int .i64 6,.int .u32 oo,.int .i64 ti,.int .i64 0,.int .i64 0,.int .i64 0,.int .u32 0,.int .u32 0,.int .u32 0,.int .u64 0,.int .u64 0,.int .i64 0]) ⟨⟨hb2,hk2⟩,hl2⟩ fun y2 hy=> ?_
   clear hb2 hk2 hl2
   have HS2:=hy.1
   have L22:=Lib.hid hy.2
   clear hy HS1 L21
   refine takeTo (i:=12) (v:=.pointer (some ⟨q+1,6,none⟩)) (some 54) rfl rfl (by decide+kernel) (by decide+kernel) (by decide+kernel) (fun _ _ _ h=>h) (yieldsF rfl rfl (E.out.at 11 rfl) (fun W=>by kernel_rfl)) HS2 ?_
   replace E:=Lib.hid (E.out.put 54 (.pointer (some ⟨q+1,6,none⟩)) (by decide) rfl)
   refine wpAnyH_all (rs:=[13]) (by kernel_rfl) (by simp) fun j hj=> ?_
   obtain rfl:j=13:=by simpa using hj
   clear hj
   refine heldOp rfl fun K hK=> ?_
   have l6:=L22.out.cell 6 _ rfl
   have fz:=L22.out.frozen
   have zl:=L22.out.lt
   refine wpList_store_at rfl 41 (.tmp 54) (.tmp 49) rfl rfl (q+1) 6 (.int .u32 tt) (E.out.at 0 rfl) (E.out.at 5 rfl) (by have f6:=fz 6;go_simp) ?_
   clear l6 fz zl
   have hb6:=HS2.1.setCell (p:=⟨q+1,6,none⟩) (by dsimp only;omega) (.int .u32 tt)
   have hk6:=HS2.2.other (B':=q+1) (i:=6) (by omega) (.int .u32 tt)
   have hl6:BoxN _ (q+1) 46 #[.int .i64 6,.int .u32 oo,.int .i64 ti,.int .i64 0,.int .i64 0,.int .i64 0,.int .u32 tt,.int .u32 0,.int .u32 0,.int .u64 0,.int .u64 0,.int .i64 0]:=L22.out.set 6 (.int .u32 tt)
   refine hK.out _ _ ⟨⟨hb6,hk6⟩, ?_⟩
   clear hK K
   refine at_worldA (fun X=>(Below w.heap.size w X∧BoxN X q 46 #[.int .i64 6,.int .u32 oo,.int .i64 ti,.int .i64 se,.int .i64 sc,.int .i64 nn,.int .u32 tt,.int .u32 a,.int .u32 b,.int .u64 c,.int .u64 d,.int .i64 nw])∧BoxN X (q+1) 46 #[.int .i64 6,.int .u32 oo,.int .i64 ti,.int .i64 0,.int .i64 0,.int .i64 0,.int .u32 tt,.int .u32 0,.int .u32 0,.int .u64 0,.int .u64 0,.int .i64 0]) ⟨⟨hb6,hk6⟩,hl6⟩ fun y3 hy=> ?_
   clear hb6 hk6 hl6
   have HS3:=hy.1
   have L23:=Lib.hid hy.2
   clear hy HS2 L22
   refine takeTo (i:=14) (v:=.pointer (some ⟨q+1,7,none⟩)) (some 55) rfl rfl (by decide+kernel) (by decide+kernel) (by decide+kernel) (fun _ _ _ h=>h) (yieldsF rfl rfl (E.out.at 12 rfl) (fun W=>by kernel_rfl)) HS3 ?_
   replace E:=Lib.hid (E.out.put 55 (.pointer (some ⟨q+1,7,none⟩)) (by decide) rfl)
   refine wpAnyH_all (rs:=[15]) (by kernel_rfl) (by simp) fun j hj=> ?_
   obtain rfl:j=15:=by simpa using hj
   clear hj
   refine heldOp rfl fun K hK=> ?_
   have l7:=L23.out.cell 7 _ rfl
   have l8:=L23.out.cell 8 _ rfl
   have l9:=L23.out.cell 9 _ rfl
   have l10:=L23.out.cell 10 _ rfl
   have fz:=L23.out.frozen
   have zl:=L23.out.lt
   refine wpList_store_mid rfl 44 (.tmp 55) (.tmp 51) rfl (q+1) 7 #[.int .u32 a,.int .u32 b,.int .u64 c,.int .u64 d] (E.out.at 0 rfl) (E.out.at 4 rfl) (thereFour l7 l8 l9 l10 fz) (by kernel_rfl) (by simp[Value.oneCell']) ?_
   clear l7 l8 l9 l10 fz zl
   have hb7:=HS3.1.setCell (p:=⟨q+1,7,none⟩) (by dsimp only;omega) (.int .u32 a)
   have hk7:=HS3.2.other (B':=q+1) (i:=7) (by omega) (.int .u32 a)
   have hl7:BoxN _ (q+1) 46 #[.int .i64 6,.int .u32 oo,.int .i64 ti,.int .i64 0,.int .i64 0,.int .i64 0,.int .u32 tt,.int .u32 a,.int .u32 0,.int .u64 0,.int .u64 0,.int .i64 0]:=L23.out.set 7 (.int .u32 a)
   have hb8:=hb7.setCell (p:=⟨q+1,8,none⟩) (by dsimp only;omega) (.int .u32 b)
   have hk8:=hk7.other (B':=q+1) (i:=8) (by omega) (.int .u32 b)
   have hl8:BoxN _ (q+1) 46 #[.int .i64 6,.int .u32 oo,.int .i64 ti,.int .i64 0,.int .i64 0,.int .i64 0,.int .u32 tt,.int .u32 a,.int .u32 b,.int .u64 0,.int .u64 0,.int .i64 0]:=hl7.set 8 (.int .u32 b)
   have hb9:=hb8.setCell (p:=⟨q+1,9,none⟩) (by dsimp only;omega) (.int .u64 c)
   have hk9:=hk8.other (B':=q+1) (i:=9) (by omega) (.int .u64 c)
   have hl9:BoxN _ (q+1) 46 #[.int .i64 6,.int .u32 oo,.int .i64 ti,.int .i64 0,.int .i64 0,.int .i64 0,.int .u32 tt,.int .u32 a,.int .u32 b,.int .u64 c,.int .u64 0,.int .i64 0]:=hl8.set 9 (.int .u64 c)
   have hb10:=hb9.setCell (p:=⟨q+1,10,none⟩) (by dsimp only;omega) (.int .u64 d)
   have hk10:=hk9.other (B':=q+1) (i:=10) (by omega) (.int .u64 d)
   have hl10:BoxN _ (q+1) 46 #[.int .i64 6,.int .u32 oo,.int .i64 ti,.int .i64 0,.int .i64 0,.int .i64 0,.int .u32 tt,.int .u32 a,.int .u32 b,.int .u64 c,.int .u64 d,.int .i64 0]:=hl9.set 10 (.int .u64 d)
   refine hK.out _ _ ⟨⟨hb10,hk10⟩, ?_⟩
   clear hK K
   refine at_worldA (fun X=>(Below w.heap.size w X∧BoxN X q 46 #[.int .i64 6,.int .u32 oo,.int .i64 ti,.int .i64 se,.int .i64 sc,.int .i64 nn,.int .u32 tt,.int .u32 a,.int .u32 b,.int .u64 c,.int .u64 d,.int .i64 nw])∧BoxN X (q+1) 46 #[.int .i64 6,.int .u32 oo,.int .i64 ti,.int .i64 0,.int .i64 0,.int .i64 0,.int .u32 tt,.int .u32 a,.int .u32 b,.int .u64 c,.int .u64 d,.int .i64 0]) ⟨⟨hb10,hk10⟩,hl10⟩ fun y4 hy=> ?_
   clear hb7 hk7 hl7 hb8 hk8 hl8 hb9 hk9 hl9 hb10 hk10 hl10
   have HS4:=hy.1
   have L24:=Lib.hid hy.2
   clear hy HS3 L23
   refine wpAnyH_done (by kernel_rfl) ?_ _
   have hbb:=hb.out
   clear hb E
   subst hbb
   simp only[Act.put,List.setIfInBounds_toArray,List.set_cons_succ,List.set_cons_zero]
   go_wp2_with fail
   have he:(opCells (xOp ⟨6,oo,ti,se,sc,nn,tt,⟨a,b,c,d⟩,nw⟩)).toArray=#[.int .i64 6,.int .u32 oo,.int .i64 ti,.int .i64 0,.int .i64 0,.int .i64 0,.int .u32 tt,.int .u32 a,.int .u32 b,.int .u64 c,.int .u64 d,.int .i64 0]:=by simp[xOp,opCells]
   go_meet
   rw[he]
   exact⟨Lib.hid HS4.1,Lib.hid HS4.2,L24,by omega,by omega⟩
  ·as_aux_lemma=>
   go_upto_region 16 with fail
   clear o0 o1 o2 o3 o4 o5 o6 o7 o8 o9 o10 o11 zo l1 l2 l3 l4 l5 l6 l7 l8 l9 l10 l11 fz zl
   refine at_act fun bb hb=> ?_
   have E:=Lib.hid (show EvB bb 92 [(1,.pointer (some ⟨q,0,none⟩)),(3,.pointer (some ⟨q+1,0,none⟩))] from⟨by rw[hb.out];rfl,fun i v h=>by rw[hb.out];simp only[List.mem_cons,List.not_mem_nil,or_false,Prod.mk.injEq] at h;rcases h with⟨rfl,rfl⟩|⟨rfl,rfl⟩<;>rfl⟩)
   refine wp_region_held (S:=fun X=>Below w.heap.size w X∧BoxN X q 46 #[.int .i64 7,.int .u32 oo,.int .i64 ti,.int .i64 se,.int .i64 sc,.int .i64 nn,.int .u32 tt,.int .u32 a,.int .u32 b,.int .u64 c,.int .u64 d,.int .i64 nw]) (by kernel_rfl) ?_
   refine at_world (fun X=>(Below w.heap.size w X∧BoxN X q 46 #[.int .i64 7,.int .u32 oo,.int .i64 ti,.int .i64 se,.int .i64 sc,.int .i64 nn,.int .u32 tt,.int .u32 a,.int .u32 b,.int .u64 c,.int .u64 d,.int .i64 nw])∧BoxN X (q+1) 46 #[.int .i64 7,.int .u32 0,.int .i64 0,.int .i64 0,.int .i64 0,.int .i64 0,.int .u32 0,.int .u32 0,.int .u32 0,.int .u64 0,.int .u64 0,.int .i64 0]) ⟨⟨bdd B1.out,BoxN.drewW K1.out⟩,BoxN.drewW L1.out⟩ fun y0 hy=> ?_
   have HS0:=hy.1
   have L20:=Lib.hid hy.2
   clear hy B1 K1 L1
   refine takeTo (i:=0) (v:=.pointer (some ⟨q,1,none⟩)) (some 58) rfl rfl (by decide+kernel) (by decide+kernel) (by decide+kernel) (fun _ _ _ h=>h) (yieldsF rfl rfl (E.out.at 0 rfl) (fun W=>by kernel_rfl)) HS0 ?_
   replace E:=Lib.hid (E.out.put 58 (.pointer (some ⟨q,1,none⟩)) (by decide) rfl)
   refine takeTo (i:=1) (v:=.int .u32 oo) (some 59) rfl rfl (by decide+kernel) (by decide+kernel) (by decide+kernel) (fun _ _ _ h=>h) (yieldsL rfl rfl (E.out.at 0 rfl) (fun W hS=>by(have cf:=hS.2.cell 1 _ rfl;have zw:=hS.2.lt;clear hS;go_simp))) HS0 ?_
   replace E:=Lib.hid (E.out.put 59 (.int .u32 oo) (by decide) rfl)
   refine takeTo (i:=2) (v:=.pointer (some ⟨q,2,none⟩)) (some 60) rfl rfl (by decide+kernel) (by decide+kernel) (by decide+kernel) (fun _ _ _ h=>h) (yieldsF rfl rfl (E.out.at 2 rfl) (fun W=>by kernel_rfl)) HS0 ?_
   replace E:=Lib.hid (E.out.put 60 (.pointer (some ⟨q,2,none⟩)) (by decide) rfl)
   refine takeTo (i:=3) (v:=.int .i64 ti) (some 61) rfl rfl (by decide+kernel) (by decide+kernel) (by decide+kernel) (fun _ _ _ h=>h) (yieldsL rfl rfl (E.out.at 0 rfl) (fun W hS=>by(have cf:=hS.2.cell 2 _ rfl;have zw:=hS.2.lt;clear hS;go_simp))) HS0 ?_
   replace E:=Lib.hid (E.out.put 61 (.int .i64 ti) (by decide) rfl)
   refine takeTo (i:=4) (v:=.pointer (some ⟨q,7,none⟩)) (some 62) rfl rfl (by decide+kernel) (by decide+kernel) (by decide+kernel) (fun _ _ _ h=>h) (yieldsF rfl rfl (E.out.at 4 rfl) (fun W=>by kernel_rfl)) HS0 ?_
   replace E:=Lib.hid (E.out.put 62 (.pointer (some ⟨q,7,none⟩)) (by decide) rfl)
   refine takeTo (i:=5) (v:=.agg #[.int .u32 a,.int .u32 b,.int .u64 c,.int .u64 d]) (some 63) rfl rfl (by decide+kernel) (by decide+kernel) (by decide+kernel) (fun _ _ _ h=>h) (yieldsIf_load_mid rfl 44 (.tmp 62) rfl q 7 (E.out.at 0 rfl) [.int .u32 a,.int .u32 b,.int .u64 c,.int .u64 d] _ (fun W hS=>rangeFour (hS.2.cell 7 _ rfl) (hS.2.cell 8 _ rfl) (hS.2.cell 9 _ rfl) (hS.2.cell 10 _ rfl)) Tryz.underlying44 rfl (by kernel_rfl)) HS0 ?_
   replace E:=Lib.hid (E.out.put 63 (.agg #[.int .u32 a,.int .u32 b,.int .u64 c,.int .u64 d]) (by decide) rfl)
   refine takeTo (i:=6) (v:=.pointer (some ⟨q+1,1,none⟩)) (some 64) rfl rfl (by decide+kernel) (by decide+kernel) (by decide+kernel) (fun _ _ _ h=>h) (yieldsF rfl rfl (E.out.at 7 rfl) (fun W=>by kernel_rfl)) HS0 ?_
   replace E:=Lib.hid (E.out.put 64 (.pointer (some ⟨q+1,1,none⟩)) (by decide) rfl)
   refine wpAnyH_all (rs:=[7]) (by kernel_rfl) (by simp) fun j hj=> ?_
   obtain rfl:j=7:=by simpa using hj
   clear hj
   refine heldOp rfl fun K hK=> ?_
   have l1:=L20.out.cell 1 _ rfl
   have fz:=L20.out.frozen
   have zl:=L20.out.lt
   refine wpList_store_at rfl 41 (.tmp 64) (.tmp 59) rfl rfl (q+1) 1 (.int .u32 oo) (E.out.at 0 rfl) (E.out.at 5 rfl) (by have f1:=fz 1;go_simp) ?_
   clear l1 fz zl
   have hb1:=HS0.1.setCell (p:=⟨q+1,1,none⟩) (by dsimp only;omega) (.int .u32 oo)
   have hk1:=HS0.2.other (B':=q+1) (i:=1) (by omega) (.int .u32 oo)
   have hl1:BoxN _ (q+1) 46 #[.int .i64 7,.int .u32 oo,.int .i64 0,.int .i64 0,.int .i64 0,.int .i64 0,.int .u32 0,.int .u32 0,.int .u32 0,.int .u64 0,.int .u64 0,.int .i64 0]:=L20.out.set 1 (.int .u32 oo)
   refine hK.out _ _ ⟨⟨hb1,hk1⟩, ?_⟩
   clear hK K
   refine at_worldA (fun X=>(Below w.heap.size w X∧BoxN X q 46 #[.int .i64 7,.int .u32 oo,.int .i64 ti,.int .i64 se,.int .i64 sc,.int .i64 nn,.int .u32 tt,.int .u32 a,.int .u32 b,.int .u64 c,.int .u64 d,.int .i64 nw])∧BoxN X (q+1) 46 #[.int .i64 7,.int .u32 oo,.int .i64 0,.int .i64 0,.int .i64 0,.int .i64 0,.int .u32 0,.int .u32 0,.int .u32 0,.int .u64 0,.int .u64 0,.int .i64 0]) ⟨⟨hb1,hk1⟩,hl1⟩ fun y1 hy=> ?_
   clear hb1 hk1 hl1
   have HS1:=hy.1
   have L21:=Lib.hid hy.2
   clear hy HS0 L20
   refine takeTo (i:=8) (v:=.pointer (some ⟨q+1,2,none⟩)) (some 65) rfl rfl (by decide+kernel) (by decide+kernel) (by decide+kernel) (fun _ _ _ h=>h) (yieldsF rfl rfl (E.out.at 8 rfl) (fun W=>by kernel_rfl)) HS1 ?_
   replace E:=Lib.hid (E.out.put 65 (.pointer (some ⟨q+1,2,none⟩)) (by decide) rfl)
   refine wpAnyH_all (rs:=[9]) (by kernel_rfl) (by simp) fun j hj=> ?_
   obtain rfl:j=9:=by simpa using hj
   clear hj
   refine heldOp rfl fun K hK=> ?_
   have l2:=L21.out.cell 2 _ rfl
   have fz:=L21.out.frozen
   have zl:=L21.out.lt
   refine wpList_store_at rfl 2 (.tmp 65) (.tmp 61) rfl rfl (q+1) 2 (.int .i64 ti) (E.out.at 0 rfl) (E.out.at 4 rfl) (by have f2:=fz 2;go_simp) ?_
   clear l2 fz zl
   have hb2:=HS1.1.setCell (p:=⟨q+1,2,none⟩) (by dsimp only;omega) (.int .i64 ti)
   have hk2:=HS1.2.other (B':=q+1) (i:=2) (by omega) (.int .i64 ti)
   have hl2:BoxN _ (q+1) 46 #[.int .i64 7,.int .u32 oo,.int .i64 ti,.int .i64 0,.int .i64 0,.int .i64 0,.int .u32 0,.int .u32 0,.int .u32 0,.int .u64 0,.int .u64 0,.int .i64 0]:=L21.out.set 2 (.int .i64 ti)
   refine hK.out _ _ ⟨⟨hb2,hk2⟩, ?_⟩
   clear hK K
   refine at_worldA (fun X=>(Below w.heap.size w X∧BoxN X q 46 #[.int .i64 7,.int .u32 oo,.int .i64 ti,.int .i64 se,.int .i64 sc,.int .i64 nn,.int .u32 tt,.int .u32 a,.int .u32 b,.int .u64 c,.int .u64 d,.int .i64 nw])∧BoxN X (q+1) 46 #[.int .i64 7,.int .u32 oo,.int .i64 ti,.int .i64 0,.int .i64 0,.int .i64 0,.int .u32 0,.int .u32 0,.int .u32 0,.int .u64 0,.int .u64 0,.int .i64 0]) ⟨⟨hb2,hk2⟩,hl2⟩ fun y2 hy=> ?_
   clear hb2 hk2 hl2
   have HS2:=hy.1
   have L22:=Lib.hid hy.2
   clear hy HS1 L21
   refine takeTo (i:=10) (v:=.pointer (some ⟨q+1,7,none⟩)) (some 66) rfl rfl (by decide+kernel) (by decide+kernel) (by decide+kernel) (fun _ _ _ h=>h) (yieldsF rfl rfl (E.out.at 9 rfl) (fun W=>by kernel_rfl)) HS2 ?_
   replace E:=Lib.hid (E.out.put 66 (.pointer (some ⟨q+1,7,none⟩)) (by decide) rfl)
   refine wpAnyH_all (rs:=[11]) (by kernel_rfl) (by simp) fun j hj=> ?_
   obtain rfl:j=11:=by simpa using hj
   clear hj
   refine heldOp rfl fun K hK=> ?_
   have l7:=L22.out.cell 7 _ rfl
   have l8:=L22.out.cell 8 _ rfl
   have l9:=L22.out.cell 9 _ rfl
   have l10:=L22.out.cell 10 _ rfl
   have fz:=L22.out.frozen
   have zl:=L22.out.lt
   refine wpList_store_mid rfl 44 (.tmp 66) (.tmp 63) rfl (q+1) 7 #[.int .u32 a,.int .u32 b,.int .u64 c,.int .u64 d] (E.out.at 0 rfl) (E.out.at 3 rfl) (thereFour l7 l8 l9 l10 fz) (by kernel_rfl) (by simp[Value.oneCell']) ?_
   clear l7 l8 l9 l10 fz zl
   have hb7:=HS2.1.setCell (p:=⟨q+1,7,none⟩) (by dsimp only;omega) (.int .u32 a)
   have hk7:=HS2.2.other (B':=q+1) (i:=7) (by omega) (.int .u32 a)
   have hl7:BoxN _ (q+1) 46 #[.int .i64 7,.int .u32 oo,.int .i64 ti,.int .i64 0,.int .i64 0,.int .i64 0,.int .u32 0,.int .u32 a,.int .u32 0,.int .u64 0,.int .u64 0,.int .i64 0]:=L22.out.set 7 (.int .u32 a)
   have hb8:=hb7.setCell (p:=⟨q+1,8,none⟩) (by dsimp only;omega) (.int .u32 b)
   have hk8:=hk7.other (B':=q+1) (i:=8) (by omega) (.int .u32 b)
   have hl8:BoxN _ (q+1) 46 #[.int .i64 7,.int .u32 oo,.int .i64 ti,.int .i64 0,.int .i64 0,.int .i64 0,.int .u32 0,.int .u32 a,.int .u32 b,.int .u64 0,.int .u64 0,.int .i64 0]:=hl7.set 8 (.int .u32 b)
   have hb9:=hb8.setCell (p:=⟨q+1,9,none⟩) (by dsimp only;omega) (.int .u64 c)
   have hk9:=hk8.other (B':=q+1) (i:=9) (by omega) (.int .u64 c)
   have hl9:BoxN _ (q+1) 46 #[.int .i64 7,.int .u32 oo,.int .i64 ti,.int .i64 0,.int .i64 0,.int .i64 0,.int .u32 0,.int .u32 a,.int .u32 b,.int .u64 c,.int .u64 0,.int .i64 0]:=hl8.set 9 (.int .u64 c)
   have hb10:=hb9.setCell (p:=⟨q+1,10,none⟩) (by dsimp only;omega) (.int .u64 d)
   have hk10:=hk9.other (B':=q+1) (i:=10) (by omega) (.int .u64 d)
   have hl10:BoxN _ (q+1) 46 #[.int .i64 7,.int .u32 oo,.int .i64 ti,.int .i64 0,.int .i64 0,.int .i64 0,.int .u32 0,.int .u32 a,.int .u32 b,.int .u64 c,.int .u64 d,.int .i64 0]:=hl9.set 10 (.int .u64 d)
   refine hK.out _ _ ⟨⟨hb10,hk10⟩, ?_⟩
   clear hK K
   refine at_worldA (fun X=>(Below w.heap.size w X∧BoxN X q 46 #[.int .i64 7,.int .u32 oo,.int .i64 ti,.int .i64 se,.int .i64 sc,.int .i64 nn,.int .u32 tt,.int .u32 a,.int .u32 b,.int .u64 c,.int .u64 d,.int .i64 nw])∧BoxN X (q+1) 46 #[.int .i64 7,.int .u32 oo,.int .i64 ti,.int .i64 0,.int .i64 0,.int .i64 0,.int .u32 0,.int .u32 a,.int .u32 b,.int .u64 c,.int .u64 d,.int .i64 0]) ⟨⟨hb10,hk10⟩,hl10⟩ fun y3 hy=> ?_
   clear hb7 hk7 hl7 hb8 hk8 hl8 hb9 hk9 hl9 hb10 hk10 hl10
   have HS3:=hy.1
   have L23:=Lib.hid hy.2
   clear hy HS2 L22
   refine wpAnyH_done (by kernel_rfl) ?_ _
   have hbb:=hb.out
   clear hb E
   subst hbb
   simp only[Act.put,List.setIfInBounds_toArray,List.set_cons_succ,List.set_cons_zero]
   go_wp2_with fail
   have he:(opCells (xOp ⟨7,oo,ti,se,sc,nn,tt,⟨a,b,c,d⟩,nw⟩)).toArray=#[.int .i64 7,.int .u32 oo,.int .i64 ti,.int .i64 0,.int .i64 0,.int .i64 0,.int .u32 0,.int .u32 a,.int .u32 b,.int .u64 c,.int .u64 d,.int .i64 0]:=by simp[xOp,opCells]
   go_meet
   rw[he]
   exact⟨Lib.hid HS3.1,Lib.hid HS3.2,L23,by omega,by omega⟩
  ·as_aux_lemma=>
   go_upto_region 10 with fail
   go_region
   go_wp2_with fail
   have hb1:=B1.out.setCell (p:=⟨q+1,1,none⟩) (by dsimp only;omega) (.int .u32 oo)
   have hk1:=K1.out.other (B':=q+1) (i:=1) (by omega) (.int .u32 oo)
   have hl1:BoxN _ (q+1) 46 #[.int .i64 8,.int .u32 oo,.int .i64 0,.int .i64 0,.int .i64 0,.int .i64 0,.int .u32 0,.int .u32 0,.int .u32 0,.int .u64 0,.int .u64 0,.int .i64 0]:=L1.out.set 1 (.int .u32 oo)
   have hb2:=hb1.setCell (p:=⟨q+1,2,none⟩) (by dsimp only;omega) (.int .i64 ti)
   have hk2:=hk1.other (B':=q+1) (i:=2) (by omega) (.int .i64 ti)
   have hl2:BoxN _ (q+1) 46 #[.int .i64 8,.int .u32 oo,.int .i64 ti,.int .i64 0,.int .i64 0,.int .i64 0,.int .u32 0,.int .u32 0,.int .u32 0,.int .u64 0,.int .u64 0,.int .i64 0]:=hl1.set 2 (.int .i64 ti)
   have hb3:=hb2.setCell (p:=⟨q+1,3,none⟩) (by dsimp only;omega) (.int .i64 se)
   have hk3:=hk2.other (B':=q+1) (i:=3) (by omega) (.int .i64 se)
   have hl3:BoxN _ (q+1) 46 #[.int .i64 8,.int .u32 oo,.int .i64 ti,.int .i64 se,.int .i64 0,.int .i64 0,.int .u32 0,.int .u32 0,.int .u32 0,.int .u64 0,.int .u64 0,.int .i64 0]:=hl2.set 3 (.int .i64 se)
   have he:(opCells (xOp ⟨8,oo,ti,se,sc,nn,tt,⟨a,b,c,d⟩,nw⟩)).toArray=#[.int .i64 8,.int .u32 oo,.int .i64 ti,.int .i64 se,.int .i64 0,.int .i64 0,.int .u32 0,.int .u32 0,.int .u32 0,.int .u64 0,.int .u64 0,.int .i64 0]:=by simp[xOp,opCells,noTk]
   go_meet
   rw[he]
   exact⟨Lib.hid (bdd hb3),Lib.hid (BoxN.drewW hk3),Lib.hid (BoxN.drewW hl3),by omega,by omega⟩
  ·as_aux_lemma=>
   go_wp2_with fail
   have hb7:=B1.out.setCell (p:=⟨q+1,7,none⟩) (by dsimp only;omega) (.int .u32 a)
   have hk7:=K1.out.other (B':=q+1) (i:=7) (by omega) (.int .u32 a)
   have hl7:BoxN _ (q+1) 46 #[.int .i64 9,.int .u32 0,.int .i64 0,.int .i64 0,.int .i64 0,.int .i64 0,.int .u32 0,.int .u32 a,.int .u32 0,.int .u64 0,.int .u64 0,.int .i64 0]:=L1.out.set 7 (.int .u32 a)
   have hb8:=hb7.setCell (p:=⟨q+1,8,none⟩) (by dsimp only;omega) (.int .u32 b)
   have hk8:=hk7.other (B':=q+1) (i:=8) (by omega) (.int .u32 b)
   have hl8:BoxN _ (q+1) 46 #[.int .i64 9,.int .u32 0,.int .i64 0,.int .i64 0,.int .i64 0,.int .i64 0,.int .u32 0,.int .u32 a,.int .u32 b,.int .u64 0,.int .u64 0,.int .i64 0]:=hl7.set 8 (.int .u32 b)
   have hb9:=hb8.setCell (p:=⟨q+1,9,none⟩) (by dsimp only;omega) (.int .u64 c)
   have hk9:=hk8.other (B':=q+1) (i:=9) (by omega) (.int .u64 c)
   have hl9:BoxN _ (q+1) 46 #[.int .i64 9,.int .u32 0,.int .i64 0,.int .i64 0,.int .i64 0,.int .i64 0,.int .u32 0,.int .u32 a,.int .u32 b,.int .u64 c,.int .u64 0,.int .i64 0]:=hl8.set 9 (.int .u64 c)
   have hb10:=hb9.setCell (p:=⟨q+1,10,none⟩) (by dsimp only;omega) (.int .u64 d)
   have hk10:=hk9.other (B':=q+1) (i:=10) (by omega) (.int .u64 d)
   have hl10:BoxN _ (q+1) 46 #[.int .i64 9,.int .u32 0,.int .i64 0,.int .i64 0,.int .i64 0,.int .i64 0,.int .u32 0,.int .u32 a,.int .u32 b,.int .u64 c,.int .u64 d,.int .i64 0]:=hl9.set 10 (.int .u64 d)
   have he:(opCells (xOp ⟨9,oo,ti,se,sc,nn,tt,⟨a,b,c,d⟩,nw⟩)).toArray=#[.int .i64 9,.int .u32 0,.int .i64 0,.int .i64 0,.int .i64 0,.int .i64 0,.int .u32 0,.int .u32 a,.int .u32 b,.int .u64 c,.int .u64 d,.int .i64 0]:=by simp[xOp,opCells]
   go_meet
   rw[he]
   exact⟨Lib.hid (hb10),Lib.hid (hk10),Lib.hid (hl10),by omega,by omega⟩
  ·as_aux_lemma=>
   go_upto_region 21 with fail
   go_region
   go_wp2_with fail
   have hb1:=B1.out.setCell (p:=⟨q+1,1,none⟩) (by dsimp only;omega) (.int .u32 oo)
   have hk1:=K1.out.other (B':=q+1) (i:=1) (by omega) (.int .u32 oo)
   have hl1:BoxN _ (q+1) 46 #[.int .i64 10,.int .u32 oo,.int .i64 0,.int .i64 0,.int .i64 0,.int .i64 0,.int .u32 0,.int .u32 0,.int .u32 0,.int .u64 0,.int .u64 0,.int .i64 0]:=L1.out.set 1 (.int .u32 oo)
   have hb2:=hb1.setCell (p:=⟨q+1,2,none⟩) (by dsimp only;omega) (.int .i64 ti)
   have hk2:=hk1.other (B':=q+1) (i:=2) (by omega) (.int .i64 ti)
   have hl2:BoxN _ (q+1) 46 #[.int .i64 10,.int .u32 oo,.int .i64 ti,.int .i64 0,.int .i64 0,.int .i64 0,.int .u32 0,.int .u32 0,.int .u32 0,.int .u64 0,.int .u64 0,.int .i64 0]:=hl1.set 2 (.int .i64 ti)
   have hb4:=hb2.setCell (p:=⟨q+1,4,none⟩) (by dsimp only;omega) (.int .i64 sc)
   have hk4:=hk2.other (B':=q+1) (i:=4) (by omega) (.int .i64 sc)
   have hl4:BoxN _ (q+1) 46 #[.int .i64 10,.int .u32 oo,.int .i64 ti,.int .i64 0,.int .i64 sc,.int .i64 0,.int .u32 0,.int .u32 0,.int .u32 0,.int .u64 0,.int .u64 0,.int .i64 0]:=hl2.set 4 (.int .i64 sc)
   have he:(opCells (xOp ⟨10,oo,ti,se,sc,nn,tt,⟨a,b,c,d⟩,nw⟩)).toArray=#[.int .i64 10,.int .u32 oo,.int .i64 ti,.int .i64 0,.int .i64 sc,.int .i64 0,.int .u32 0,.int .u32 0,.int .u32 0,.int .u64 0,.int .u64 0,.int .i64 0]:=by simp[xOp,opCells,noTk]
   go_meet
   rw[he]
   exact⟨Lib.hid (bdd hb4),Lib.hid (BoxN.drewW hk4),Lib.hid (BoxN.drewW hl4),by omega,by omega⟩
  ·as_aux_lemma=>
   go_upto_region 21 with fail
   go_region
   go_wp2_with fail
   have hb1:=B1.out.setCell (p:=⟨q+1,1,none⟩) (by dsimp only;omega) (.int .u32 oo)
   have hk1:=K1.out.other (B':=q+1) (i:=1) (by omega) (.int .u32 oo)
   have hl1:BoxN _ (q+1) 46 #[.int .i64 11,.int .u32 oo,.int .i64 0,.int .i64 0,.int .i64 0,.int .i64 0,.int .u32 0,.int .u32 0,.int .u32 0,.int .u64 0,.int .u64 0,.int .i64 0]:=L1.out.set 1 (.int .u32 oo)
   have hb2:=hb1.setCell (p:=⟨q+1,2,none⟩) (by dsimp only;omega) (.int .i64 ti)
   have hk2:=hk1.other (B':=q+1) (i:=2) (by omega) (.int .i64 ti)
   have hl2:BoxN _ (q+1) 46 #[.int .i64 11,.int .u32 oo,.int .i64 ti,.int .i64 0,.int .i64 0,.int .i64 0,.int .u32 0,.int .u32 0,.int .u32 0,.int .u64 0,.int .u64 0,.int .i64 0]:=hl1.set 2 (.int .i64 ti)
   have hb4:=hb2.setCell (p:=⟨q+1,4,none⟩) (by dsimp only;omega) (.int .i64 sc)
   have hk4:=hk2.other (B':=q+1) (i:=4) (by omega) (.int .i64 sc)
   have hl4:BoxN _ (q+1) 46 #[.int .i64 11,.int .u32 oo,.int .i64 ti,.int .i64 0,.int .i64 sc,.int .i64 0,.int .u32 0,.int .u32 0,.int .u32 0,.int .u64 0,.int .u64 0,.int .i64 0]:=hl2.set 4 (.int .i64 sc)
   have he:(opCells (xOp ⟨11,oo,ti,se,sc,nn,tt,⟨a,b,c,d⟩,nw⟩)).toArray=#[.int .i64 11,.int .u32 oo,.int .i64 ti,.int .i64 0,.int .i64 sc,.int .i64 0,.int .u32 0,.int .u32 0,.int .u32 0,.int .u64 0,.int .u64 0,.int .i64 0]:=by simp[xOp,opCells,noTk]
   go_meet
   rw[he]
   exact⟨Lib.hid (bdd hb4),Lib.hid (BoxN.drewW hk4),Lib.hid (BoxN.drewW hl4),by omega,by omega⟩
  ·as_aux_lemma=>
   go_wp2_with fail
   have hb11:=B1.out.setCell (p:=⟨q+1,11,none⟩) (by dsimp only;omega) (.int .i64 nw)
   have hk11:=K1.out.other (B':=q+1) (i:=11) (by omega) (.int .i64 nw)
   have hl11:BoxN _ (q+1) 46 #[.int .i64 12,.int .u32 0,.int .i64 0,.int .i64 0,.int .i64 0,.int .i64 0,.int .u32 0,.int .u32 0,.int .u32 0,.int .u64 0,.int .u64 0,.int .i64 nw]:=L1.out.set 11 (.int .i64 nw)
   have he:(opCells (xOp ⟨12,oo,ti,se,sc,nn,tt,⟨a,b,c,d⟩,nw⟩)).toArray=#[.int .i64 12,.int .u32 0,.int .i64 0,.int .i64 0,.int .i64 0,.int .i64 0,.int .u32 0,.int .u32 0,.int .u32 0,.int .u64 0,.int .u64 0,.int .i64 nw]:=by simp[xOp,opCells,noTk]
   go_meet
   rw[he]
   exact⟨Lib.hid (hb11),Lib.hid (hk11),Lib.hid (hl11),by omega,by omega⟩
 case rest=>
  obtain⟨hb,hk,hl,hr⟩:=hcut
  rename World=>w2
  have HX:=Lib.hid (hx.out hr)
  clear hM hx B1 K1 L1 o0 o1 o2 o3 o4 o5 o6 o7 o8 o9 o10 o11 zo l1 l2 l3 l4 l5 l6 l7 l8 l9 l10 l11 fz zl hr
  generalize xOp ⟨k,oo,ti,se,sc,nn,tt,⟨a,b,c,d⟩,nw⟩=X at hl HX
  obtain⟨k',oo',ti',se',sc',nn',tt',⟨a',b',c',d'⟩,nw'⟩:=X
  have BB:=hb
  have x0:=hk.out.cell 0 _ rfl
  have x1:=hk.out.cell 1 _ rfl
  have x2:=hk.out.cell 2 _ rfl
  have x3:=hk.out.cell 3 _ rfl
  have x4:=hk.out.cell 4 _ rfl
  have x5:=hk.out.cell 5 _ rfl
  have x6:=hk.out.cell 6 _ rfl
  have x7:=hk.out.cell 7 _ rfl
  have x8:=hk.out.cell 8 _ rfl
  have x9:=hk.out.cell 9 _ rfl
  have x10:=hk.out.cell 10 _ rfl
  have x11:=hk.out.cell 11 _ rfl
  have zx:=hk.out.lt
  have y0:=hl.out.cell 0 (.int .i64 k') rfl
  have y1:=hl.out.cell 1 (.int .u32 oo') rfl
  have y2:=hl.out.cell 2 (.int .i64 ti') rfl
  have y3:=hl.out.cell 3 (.int .i64 se') rfl
  have y4:=hl.out.cell 4 (.int .i64 sc') rfl
  have y5:=hl.out.cell 5 (.int .i64 nn') rfl
  have y6:=hl.out.cell 6 (.int .u32 tt') rfl
  have y7:=hl.out.cell 7 (.int .u32 a') rfl
  have y8:=hl.out.cell 8 (.int .u32 b') rfl
  have y9:=hl.out.cell 9 (.int .u64 c') rfl
  have y10:=hl.out.cell 10 (.int .u64 d') rfl
  have y11:=hl.out.cell 11 (.int .i64 nw') rfl
  have zy:=hl.out.lt
  clear hk hl hb
  by_cases e0:k'=k
  case neg=>as_aux_lemma=>
   have t0:(k'==k)=false:=by simpa using e0
   have hM2:M=2:=by rw[HX.out,if_neg (fun h=>e0 (by simp only[MOp.mk.injEq] at h;omega))]
   clear e0 HX
   go_wp2_with fail
   go_ret
   exact⟨by rw[hM2];rfl,by first|exact BB.out|(rw[←hq];exact BB.out)⟩
  subst e0
  by_cases e1:oo'=oo
  case neg=>as_aux_lemma=>
   have t1:(oo'==oo)=false:=by simpa using e1
   have hM2:M=2:=by rw[HX.out,if_neg (fun h=>e1 (by simp only[MOp.mk.injEq] at h;omega))]
   clear e1 HX
   go_wp2_with fail
   go_ret
   exact⟨by rw[hM2];rfl,by first|exact BB.out|(rw[←hq];exact BB.out)⟩
  subst e1
  by_cases e2:ti'=ti
  case neg=>as_aux_lemma=>
   have t2:(ti'==ti)=false:=by simpa using e2
   have hM2:M=2:=by rw[HX.out,if_neg (fun h=>e2 (by simp only[MOp.mk.injEq] at h;omega))]
   clear e2 HX
   go_wp2_with fail
   go_ret
   exact⟨by rw[hM2];rfl,by first|exact BB.out|(rw[←hq];exact BB.out)⟩
  subst e2
  by_cases e3:se'=se
  case neg=>as_aux_lemma=>
   have t3:(se'==se)=false:=by simpa using e3
   have hM2:M=2:=by rw[HX.out,if_neg (fun h=>e3 (by simp only[MOp.mk.injEq] at h;omega))]
   clear e3 HX
   go_wp2_with fail
   go_ret
   exact⟨by rw[hM2];rfl,by first|exact BB.out|(rw[←hq];exact BB.out)⟩
  subst e3
  by_cases e4:sc'=sc
  case neg=>as_aux_lemma=>
   have t4:(sc'==sc)=false:=by simpa using e4
   have hM2:M=2:=by rw[HX.out,if_neg (fun h=>e4 (by simp only[MOp.mk.injEq] at h;omega))]
   clear e4 HX
   go_wp2_with fail
   go_ret
   exact⟨by rw[hM2];rfl,by first|exact BB.out|(rw[←hq];exact BB.out)⟩
  subst e4
  by_cases e5:nn'=nn
  case neg=>as_aux_lemma=>
   have t5:(nn'==nn)=false:=by simpa using e5
   have hM2:M=2:=by rw[HX.out,if_neg (fun h=>e5 (by simp only[MOp.mk.injEq] at h;omega))]
   clear e5 HX
   go_wp2_with fail
   go_ret
   exact⟨by rw[hM2];rfl,by first|exact BB.out|(rw[←hq];exact BB.out)⟩
  subst e5
  by_cases e6:tt'=tt
  case neg=>as_aux_lemma=>
   have t6:(tt'==tt)=false:=by simpa using e6
   have hM2:M=2:=by rw[HX.out,if_neg (fun h=>e6 (by simp only[MOp.mk.injEq] at h;omega))]
   clear e6 HX
   go_wp2_with fail
   go_ret
   exact⟨by rw[hM2];rfl,by first|exact BB.out|(rw[←hq];exact BB.out)⟩
  subst e6
  by_cases e7:a'=a
  case neg=>as_aux_lemma=>
   have t7:(a'==a)=false:=by simpa using e7
   have hM2:M=2:=by rw[HX.out,if_neg (fun h=>e7 (by simp only[MOp.mk.injEq,Tk.mk.injEq] at h;omega))]
   clear e7 HX
   go_wp2_with fail
   go_ret
   exact⟨by rw[hM2];rfl,by first|exact BB.out|(rw[←hq];exact BB.out)⟩
  subst e7
  by_cases e8:b'=b
  case neg=>as_aux_lemma=>
   have t8:(b'==b)=false:=by simpa using e8
   have hM2:M=2:=by rw[HX.out,if_neg (fun h=>e8 (by simp only[MOp.mk.injEq,Tk.mk.injEq] at h;omega))]
   clear e8 HX
   go_wp2_with fail
   go_ret
   exact⟨by rw[hM2];rfl,by first|exact BB.out|(rw[←hq];exact BB.out)⟩
  subst e8
  by_cases e9:c'=c
  case neg=>as_aux_lemma=>
   have t9:(c'==c)=false:=by simpa using e9
   have hM2:M=2:=by rw[HX.out,if_neg (fun h=>e9 (by simp only[MOp.mk.injEq,Tk.mk.injEq] at h;omega))]
   clear e9 HX
   go_wp2_with fail
   go_ret
   exact⟨by rw[hM2];rfl,by first|exact BB.out|(rw[←hq];exact BB.out)⟩
  subst e9
  by_cases e10:d'=d
  case neg=>as_aux_lemma=>
   have t10:(d'==d)=false:=by simpa using e10
   have hM2:M=2:=by rw[HX.out,if_neg (fun h=>e10 (by simp only[MOp.mk.injEq,Tk.mk.injEq] at h;omega))]
   clear e10 HX
   go_wp2_with fail
   go_ret
   exact⟨by rw[hM2];rfl,by first|exact BB.out|(rw[←hq];exact BB.out)⟩
  subst e10
  by_cases e11:nw'=nw
  case neg=>as_aux_lemma=>
   have t11:(nw'==nw)=false:=by simpa using e11
   have hM2:M=2:=by rw[HX.out,if_neg (fun h=>e11 (by simp only[MOp.mk.injEq] at h;omega))]
   clear e11 HX
   go_wp2_with fail
   go_ret
   exact⟨by rw[hM2];rfl,by first|exact BB.out|(rw[←hq];exact BB.out)⟩
  subst e11
  have hM2:M=0:=by rw[HX.out,if_pos rfl]
  clear HX
  go_wp2_with fail
  go_ret
  exact⟨by rw[hM2];rfl,by first|exact BB.out|(rw[←hq];exact BB.out)⟩
end Go.Proofs.YtlckmjiioohcmaaGreatDoor
