/-
  The plain law of AuditParts: the faults of a beginning of a record are the first ones of it. Conditions: as each theorem says.
-/
import Derived.Test.YtlckmjiioohcmaaGreatDoorPlOne
namespace Go.Proofs.YtlckmjiioohcmaaGreatDoor
open Go.RowKit
theorem checkLoop_cons {s:Au} {i:Nat} {p:MOp×MRp} {l:List (MOp×MRp)} {acc:List (Int×Int)} (h:(checkLoop s i (p::l) acc).2=0):
 (readA s p.1 p.2).2.1=0∧checkLoop s i (p::l) acc=checkLoop (readA s p.1 p.2).2.2 (i+1) l (if(readA s p.1 p.2).1≠0 then acc++[((i:Int),(readA s p.1 p.2).1)] else acc):=by
 simp only[checkLoop] at h⊢
 split at h
 ·rename_i h1;exact absurd h h1
 ·rename_i h1;rw[if_neg h1];exact⟨Decidable.not_not.1 h1,rfl⟩
theorem checkLoop_more:∀(l:List (MOp×MRp)) (s:Au) (i:Nat) (acc:List (Int×Int)),(checkLoop s i l acc).2=0→∃rest,(checkLoop s i l acc).1=acc++rest∧∀f,f∈rest→(i:Int)≤f.1
 |[],_,_,acc,_=>⟨[],by simp[checkLoop],fun f h=>by simp at h⟩
 |p::l,s,i,acc,h=>by
  obtain⟨_,e⟩:=checkLoop_cons h
  rw[e] at h⊢
  obtain⟨rest,h1,h2⟩:=checkLoop_more l _ _ _ h
  rw[h1]
  split
  ·refine⟨((i:Int),(readA s p.1 p.2).1)::rest,by simp,fun f hf=> ?_⟩
   rcases List.mem_cons.1 hf with rfl|hf
   ·exact Int.le_refl _
   ·have:=h2 f hf;omega
  ·exact⟨rest,rfl,fun f hf=>by have:=h2 f hf;omega⟩
end Go.Proofs.YtlckmjiioohcmaaGreatDoor
