/-
  Plain law: picking the first of the least, again and again, is the stable sort. Conditions: none.
-/
import Derived.Test.YtlckmjiioohcmaaGreatDoorLib
namespace Go.Proofs.YtlckmjiioohcmaaGreatDoor
open Go.RowKit
def pickI (key:Int→Int) (l:List Int):Nat→Nat
 |0=>0
 |k+1=>if key (l.getD k 0)<key (l.getD (pickI key l k) 0) then k else pickI key l k
theorem pickI_le (key:Int→Int) (l:List Int):∀k,pickI key l k≤k
 |0=>Nat.le_refl _
 |k+1=>by
  have:=pickI_le key l k
  unfold pickI
  split<;>omega
theorem pickI_lt (key:Int→Int) {l:List Int} (h:l≠[]):∀k,k≤l.length→pickI key l k<l.length
 |0,_=>List.length_pos_iff.2 h
 |k+1,hk=>by
  have:=pickI_lt key h k (by omega)
  unfold pickI
  split<;>omega
theorem pickI_least (key:Int→Int) (l:List Int):∀k,∀j,j<k→(key (l.getD (pickI key l k) 0)≤key (l.getD j 0))∧(j<pickI key l k→key (l.getD (pickI key l k) 0)<key (l.getD j 0))
 |0,j,hj=>by omega
 |k+1,j,hj=>by
  have hle:=pickI_le key l k
  unfold pickI
  split
  ·rename_i h
   by_cases e:j=k
   ·subst e;exact⟨Int.le_refl _,fun h=>by omega⟩
   ·have:=(pickI_least key l k j (by omega)).1
    exact⟨by omega,fun _=>by omega⟩
  ·rename_i h
   by_cases e:j=k
   ·subst e;exact⟨by omega,fun h=>by omega⟩
   ·exact pickI_least key l k j (by omega)
def selS (key:Int→Int):Nat→List Int→List Int
 |0,_=>[]
 |n+1,l=>l.getD (pickI key l l.length) 0::selS key n (l.eraseIdx (pickI key l l.length))
theorem selS_spec (key:Int→Int):∀(n:Nat) {l:List Int},l.length=n→l.Pairwise (· < ·)→(selS key n l).Perm l∧Asc key (selS key n l)
 |0,l,hl,_=>by rw[List.eq_nil_of_length_eq_zero hl];exact⟨List.Perm.refl _,List.Pairwise.nil⟩
 |n+1,l,hl,hp=>by
  have hne:l≠[]:=by intro e;rw[e] at hl;simp at hl
  have hlt:=pickI_lt key hne l.length (Nat.le_refl _)
  have hle:=pickI_least key l l.length
  simp only[selS]
  generalize pickI key l l.length=p at*
  have hg:l.getD p 0=l[p]:=by rw[List.getD_eq_getElem?_getD,List.getElem?_eq_getElem hlt];rfl
  have hlen:(l.eraseIdx p).length=n:=by rw[List.length_eraseIdx];simp[hlt];omega
  obtain⟨h1,h2⟩:=selS_spec key n hlen (hp.sublist (List.eraseIdx_sublist _ _))
  have hperm:(l[p]::l.eraseIdx p).Perm l:=by
   rw[List.eraseIdx_eq_take_drop_succ]
   have e:l=l.take p++l[p]::l.drop (p+1):=by
    rw[←List.drop_eq_getElem_cons hlt,List.take_append_drop]
   exact(List.perm_middle.symm).trans (by rw[←e])
  refine⟨by rw[hg];exact(h1.cons _).trans hperm,List.pairwise_cons.2 ⟨fun y hy=> ?_,h2⟩⟩
  have hy:=(h1.mem_iff).1 hy
  obtain⟨j,hj,hjp,rfl⟩:∃j,∃hj:j<l.length,j≠p∧y=l[j]:=by
   rw[List.eraseIdx_eq_take_drop_succ] at hy
   rcases List.mem_append.1 hy with hy|hy
   ·obtain⟨j,hj,h3,h4⟩:=mem_take_i hy
    exact⟨j,hj,by omega,h4⟩
   ·obtain⟨j,hj,h3,h4⟩:=mem_drop_i hy
    exact⟨j,hj,by omega,h4⟩
  have hgj:l.getD j 0=l[j]:=by rw[List.getD_eq_getElem?_getD,List.getElem?_eq_getElem hj];rfl
  have h5:=hle j hj
  rw[hg,hgj] at h5
  rw[hg]
  unfold lexlt
  by_cases hjp2:j<p
  ·exact .inl (h5.2 hjp2)
  ·have h6:l[p]<l[j]:=List.pairwise_iff_getElem.1 hp p j hlt hj (by omega)
   rcases Int.lt_or_eq_of_le h5.1 with h7|h7
   ·exact .inl h7
   ·exact .inr ⟨h7,h6⟩
theorem selS_srt (key:Int→Int) {l:List Int} (h:l.Pairwise (· < ·)):selS key l.length l=srt key l:=
 have:=selS_spec key l.length rfl h
 srt_eq h this.1 this.2
end Go.Proofs.YtlckmjiioohcmaaGreatDoor
