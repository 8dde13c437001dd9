/-
  Walks of the laws' far and first: plans. Conditions: as each theorem says.
-/
import Derived.Test.YtlngbdggehghgaaScL
namespace Go.Proofs.Ytlngbdggehghgaa
set_option linter.unusedSimpArgs false
set_option linter.unusedVariables false
open Go.RowKit
def dlR:Rep (List De) where
 size:=1
 is w cs l:=∃A c,cs=[.slice A l.length c]∧Sl deR w (.slice A l.length c) l
 len h:=by obtain⟨_,_,rfl,_⟩:=h;rfl
 one h:=by obtain⟨_,_,rfl,_⟩:=h;simp[Value.oneCell']
 up hb h:=by obtain⟨A,c,h1,h2⟩:=h;exact⟨A,c,h1,h2.up hb⟩
def byR:Rep Int where
 size:=1
 is _ cs x:=cs=[.int .u8 x]∧0≤x∧x<256
 len h:=by rw[h.1];rfl
 one h:=by rw[h.1];simp[Value.oneCell']
 up _ h:=h
theorem byR_flat:byR.flat:=fun _ _ _ _ h=>h
structure Pn where
 ks:List (List De)
 fs:List Int
 most:Int
def farS (p:Pn):Bool:=p.ks.any (fun l=>decide (20<l.length))||decide (10<p.ks.length)||decide (250<p.fs.length)
def firstT (n:Nat) (f:Int):Tk:=⟨7,f%n,0,0,0,0,0⟩
def firstS (p:Pn):List Tk:=if p.ks=[] then[] else p.fs.map (firstT p.ks.length)
structure PnAt (w:World) (p:Pn) (kv fv:Value):Prop where
 ks:Sl dlR w kv p.ks
 fs:Sl byR w fv p.fs
theorem PnAt.up {w w':World} {p:Pn} {kv fv:Value} (h:PnAt w p kv fv) (hb:Below w.heap.size w w'):PnAt w' p kv fv:=⟨h.ks.up hb,h.fs.up hb⟩
theorem Sl.atK {w:World} {A:Option Addr} {n c k:Nat} {xs:List (List De)} (h:Sl dlR w (.slice A n c) xs) (hk:k<xs.length):
 ∃b off A' c',A=some ⟨b,off,.none⟩∧b<w.heap.size∧w.cell? ⟨b,off+k,.none⟩=some (.slice A' xs[k].length c')∧Sl deR w (.slice A' xs[k].length c') xs[k]:=by
 obtain⟨b,off,cs,rfl,hb,⟨A',c',rfl,hx⟩,h2⟩:=h.at_ hk
 have h3:=h2 0 _ rfl
 simp only[dlR,Nat.mul_one,Nat.add_zero] at h3
 exact⟨b,off,A',c',rfl,hb,h3,hx⟩
theorem box3 (w:World) (a b c:Value) (t:TypeId):(w.alloc (.cells #[a,b,c] t)).cell? ⟨w.heap.size,0,none⟩=some a∧(w.alloc (.cells #[a,b,c] t)).cell? ⟨w.heap.size,1,none⟩=some b∧(w.alloc (.cells #[a,b,c] t)).cell? ⟨w.heap.size,2,none⟩=some c:=
 have h:=(Cells.new w [a,b,c] t).c
 ⟨h 0 _ rfl,h 1 _ rfl,h 2 _ rfl⟩
set_option maxHeartbeats 2000000 in
theorem far_any (p:Pn) (kv fv:Value) (w:World) (h:PnAt w p kv fv):
 Calls Try.prog 24 #[.agg #[kv,fv,.int .i64 p.most]] w fun e w'=>e=.returned (.bool (farS p))∧Below w.heap.size w w':=by
 obtain⟨kA,kc,rfl,k1,k2,_⟩:=h.ks.open
 obtain⟨fA,fc,rfl,f1,f2,_⟩:=h.fs.open
 have HH:=Lib.hid h
 clear h
 go_enter Try.func24,Try.ntmps24
 go_wp2_with fail
 refine at_world (fun X=>Below w.heap.size w X∧w.heap.size<X.heap.size∧X.cell? ⟨w.heap.size,0,none⟩=some (.slice kA p.ks.length kc)∧X.cell? ⟨w.heap.size,1,none⟩=some (.slice fA p.fs.length fc)) ⟨ba _ _,by simp,(box3 w _ _ _ _).1,(box3 w _ _ _ _).2.1⟩ fun x1 ⟨hb1,hz,c0,c1⟩=> ?_
 have HB:=Lib.hid hb1
 clear hb1
 go_loopw [3] (fun i wr=> ∃k:Nat,k≤p.ks.length∧i=.int .i64 k∧Hid (Below x1.heap.size x1 wr)∧Hid ((p.ks.take k).any (fun l=>decide (20<l.length))=false)) (fun i _=>p.ks.length-(intOf i).toNat)
 case atStart=>exact⟨0,by omega,rfl,Below.refl _ _,by show(List.take 0 p.ks).any _=false;simp⟩
 case round=>
  obtain⟨k,hk,rfl,hb,hany⟩:=hrel
  have d0:=cell_later hb.out c0
  have d1:=cell_later hb.out c1
  by_cases hlt:k<p.ks.length
  ·obtain⟨b,off,A',c',rfl,_,hc,_⟩:=((HH.out.up HB.out).up hb.out).ks.atK hlt
   have HX:=Lib.hid (show p.ks.take (k+1)=p.ks.take k++[p.ks[k]] from List.take_succ_eq_append_getElem hlt)
   have HM:=Lib.hid (List.getElem_mem hlt)
   generalize p.ks[k]=l at hc HX HM
   by_cases hq:20<l.length
   ·go_wp2_with fail
    go_ret
    refine⟨?_,HB.out.trans (hb.out.mono HB.out.size)⟩
    have:p.ks.any (fun l=>decide (20<l.length))=true:=List.any_eq_true.2 ⟨l,HM.out,by simpa using hq⟩
    simp[farS,this]
   ·go_wp2_with fail
    go_roundw
    case rel=>exact⟨k+1,by omega,by go_num,hb,by show(List.take _ _).any _=false;rw[HX.out,List.any_append,hany.out];simp;omega⟩
    case measure=>simp[intOf];omega
  ·have hke:k=p.ks.length:=by omega
   have HK:=Lib.hid hke
   clear hke
   have h1:=hany.out
   rw[HK.out,List.take_length] at h1
   have H1:=Lib.hid h1
   clear h1
   by_cases h10:10<p.ks.length
   ·go_wp2_with fail
    go_ret
    exact⟨by simp[farS,H1.out,h10],HB.out.trans (hb.out.mono HB.out.size)⟩
   ·have h10':¬((10:Int)<(p.ks.length:Int)):=by omega
    have e1:decide ((250:Int)<(p.fs.length:Int))=decide (250<p.fs.length):=decide_eq_decide.2 (by omega)
    have E1:=Lib.hid e1
    clear e1
    go_wp2_with fail
    go_ret
    exact⟨by simp[farS,H1.out,h10,h10',E1.out],HB.out.trans (hb.out.mono HB.out.size)⟩
end Go.Proofs.Ytlngbdggehghgaa
