/-
  Walks of groundlingref15.some and Row, of venues that Check lets by. Conditions: as each theorem says.
-/
import Derived.Test.YtlckmjiioohcmaaGreatDoorRvP
namespace Go.Proofs.YtlckmjiioohcmaaGreatDoor
open Go.RowKit
def hitP (sec row:Int) (p:Pl):Bool:=p.sec==sec&&p.row==row
def someTo (sec row:Int) (l:List Pl):Nat→Int×Int
 |0=>(0,0)
 |k+1=>match l[k]? with
  |some p=>if hitP sec row p=true then(if(someTo sec row l k).2=0 then(k:Int) else(someTo sec row l k).1,(someTo sec row l k).2+1) else someTo sec row l k
  |none=>someTo sec row l k
theorem someTo_bd (sec row:Int) (l:List Pl):∀k,0≤(someTo sec row l k).2∧(someTo sec row l k).2≤k
 |0=>by simp[someTo]
 |k+1=>by
  have:=someTo_bd sec row l k
  simp only[someTo]
  split
  ·split
   ·simp only;omega
   ·omega
  ·omega
def someM (sec row:Int) (l:List Pl):Int×Int×Int:=if(someTo sec row l l.length).2=0 then(0,0,4) else((someTo sec row l l.length).1,(someTo sec row l l.length).2,0)
set_option maxHeartbeats 4000000 in
set_option maxRecDepth 20000 in
theorem rsome_any {w:World} {V:Option Addr} {vc:Nat} {x:Ve} (hv:Sl secR w (.slice V x.secs.length vc) x.secs) (hc:(checkV x).2=0) (sec row:Int) (hr:0≤row):
 Calls Tryz.prog 209 #[.agg #[.int .i64 x.shards,.int .i64 x.ttl,.int .i64 x.session,.slice V x.secs.length vc],.int .i64 sec,.int .i64 row] w fun e w'=>e=.returned (.tuple #[.int .i64 (someM sec row (plAll x.secs 0)).1,.int .i64 (someM sec row (plAll x.secs 0)).2.1,.int .i64 (someM sec row (plAll x.secs 0)).2.2])∧Below w.heap.size w w':=by
 have hok:=(checkV_ok hc).1
 have hbd:=(plAll_bd hok).2
 have C1:=Lib.hid (fun W (hb:Below w.heap.size w W)=>rcheck_any (x:=x) (hv.up hb))
 have C2:=Lib.hid (fun W (hb:Below w.heap.size w W)=>rplaces_any (sh:=x.shards) (ttl:=x.ttl) (ses:=x.session) (hv.up hb) hok)
 rw[hc] at C1
 unfold PlacesPost at C2
 have HBD:=Lib.hid hbd
 generalize hl:plAll x.secs 0=l at*
 have hM:=Lib.hid (show someM sec row l=if(someTo sec row l l.length).2=0 then(0,0,4) else((someTo sec row l l.length).1,(someTo sec row l l.length).2,0) from rfl)
 generalize someM sec row l=M at hM⊢
 generalize(checkV x).1=ci at C1
 have tr:(row== -1)=false:=by simp;omega
 clear hv hok hc hr
 go_enter Tryz.func209,Tryz.ntmps209
 go_upto_region 1 with fail
 obtain⟨q,hq⟩:∃q,w.heap.size=q:=⟨_,rfl⟩
 rw[hq]
 refine at_world (fun X=>Below w.heap.size w X∧BoxN X q 24 #[.int .i64 x.shards,.int .i64 x.ttl,.int .i64 x.session,.slice V x.secs.length vc]) ⟨ba _ _,hq▸BoxN.new w _ _⟩ fun w0 hw0=> ?_
 have B0:=Lib.hid hw0.1
 have K0:=Lib.hid hw0.2
 clear hw0
 have c0:=K0.out.cell 0 _ rfl
 have c1:=K0.out.cell 1 _ rfl
 have c2:=K0.out.cell 2 _ rfl
 have c3:=K0.out.cell 3 _ rfl
 have z0:=K0.out.lt
 go_wp2_with fail
 refine(C1.out _ B0.out).mono ?_
 rintro e w1 ⟨rfl,hb⟩
 have B1:=Lib.hid (B0.out.trans (hb.mono B0.out.size))
 have K1:=Lib.hid (K0.out.later hb)
 clear hb c0 c1 c2 c3 z0 K0 B0 C1
 have c0:=K1.out.cell 0 _ rfl
 have c1:=K1.out.cell 1 _ rfl
 have c2:=K1.out.cell 2 _ rfl
 have c3:=K1.out.cell 3 _ rfl
 have z0:=K1.out.lt
 go_wp2_with fail
 refine(C2.out _ B1.out).mono ?_
 rintro e w2 ⟨A,c,rfl,ho,hb⟩
 have B2:=Lib.hid (B1.out.trans (hb.mono B1.out.size))
 have HO:=Lib.hid ho.sl
 clear ho hb c0 c1 c2 c3 z0 K1 B1 C2
 go_wp2_with fail
 go_loopw [11,12,14] (fun fv mv iv wr=> ∃k:Nat,k≤l.length∧iv=.int .i64 (k:Int)∧fv=.int .i64 (someTo sec row l k).1∧mv=.int .i64 (someTo sec row l k).2∧Hid (Below w2.heap.size w2 wr)) (fun _ _ iv _=>l.length-(intOf iv).toNat)
 case atStart=>exact⟨0,by omega,rfl,rfl,rfl,Lib.hid (Below.refl _ _)⟩
 case round=>
  obtain⟨k,hk,rfl,rfl,rfl,HR⟩:=hrel
  rename World=>wr
  have hb2:=someTo_bd sec row l k
  by_cases hlt:k<l.length
  case neg=>
   obtain rfl:k=l.length:=by omega
   have t0:decide ((l.length:Int)<(l.length:Int))=false:=by simp
   have BR:=Lib.hid (B2.out.trans (HR.out.mono B2.out.size))
   generalize someTo sec row l l.length=S at*
   by_cases h0:S.2=0
   ·have t1:(S.2==0)=true:=by simpa using h0
    have hM2:=Lib.hid (hM.out.trans (if_pos h0))
    clear h0 hM
    go_wp2_with fail
    exact bodyPost_ret (v:=.tuple #[.int .i64 0,.int .i64 0,.int .i64 4]) (by simp[results,Tryz.results209,go_sem]) rfl ⟨by rw[hM2.out],by first|exact BR.out|(rw[←hq];exact BR.out)⟩
   ·have t1:(S.2==0)=false:=by simpa using h0
    have hM2:=Lib.hid (hM.out.trans (if_neg h0))
    clear h0 hM
    go_wp2_with fail
    exact bodyPost_ret (v:=.tuple #[.int .i64 S.1,.int .i64 S.2,.int .i64 0]) (by simp[results,Tryz.results209,go_sem]) rfl ⟨by rw[hM2.out],by first|exact BR.out|(rw[←hq];exact BR.out)⟩
  have t0:decide ((k:Int)<(l.length:Int))=true:=decide_eq_true (by omega)
  have hk0:(0:Int)≤(k:Int):=by omega
  have hk1:(k:Int)<(l.length:Int):=by omega
  obtain⟨b,off,cs,rfl,hbl,hcs,hat⟩:=(HO.out.up HR.out).at_ hlt
  have HN:=Lib.hid (show someTo sec row l (k+1)=if hitP sec row l[k]=true then(if(someTo sec row l k).2=0 then(k:Int) else(someTo sec row l k).1,(someTo sec row l k).2+1) else someTo sec row l k by simp only[someTo,List.getElem?_eq_getElem hlt])
  have hcs1:=hcs.1
  subst hcs1
  have d0:=hat 0 _ rfl
  have d1:=hat 1 _ rfl
  simp only[plR,Nat.add_zero] at d0 d1
  clear hat hcs
  unfold hitP at HN
  generalize someTo sec row l k=S at*
  generalize l[k]=p at*
  obtain⟨S1,S2⟩:=S
  simp only at hb2 HN
  have hW:IntKind.i64.wrap (S2+1)=S2+1:=IntWalk.i64_in _ (by have:=HBD.out;omega)
  cases h1:(p.sec==sec) with
  |false=>
   rw[h1] at HN
   have HN2:=Lib.hid (show someTo sec row l (k+1)=(S1,S2) by rw[HN.out];simp)
   clear HN
   go_wp2_with fail
   exact⟨⟨k+1,by omega,by go_num,by rw[HN2.out],by rw[HN2.out],HR⟩,by simp[intOf];omega⟩
  |true=>
   cases h2:(p.row==row) with
   |false=>
    rw[h1,h2] at HN
    have HN2:=Lib.hid (show someTo sec row l (k+1)=(S1,S2) by rw[HN.out];simp)
    clear HN
    go_wp2_with fail
    exact⟨⟨k+1,by omega,by go_num,by rw[HN2.out],by rw[HN2.out],HR⟩,by simp[intOf];omega⟩
   |true=>
    rw[h1,h2] at HN
    by_cases h3:S2=0
    ·have HN2:=Lib.hid (show someTo sec row l (k+1)=((k:Int),S2+1) by rw[HN.out];simp[h3])
     subst h3
     clear HN
     go_wp2_with fail
     exact⟨⟨k+1,by omega,by go_num,by rw[HN2.out],by rw[HN2.out];try rfl,HR⟩,by simp[intOf];omega⟩
    ·have HN2:=Lib.hid (show someTo sec row l (k+1)=(S1,S2+1) by rw[HN.out];simp[h3])
     have t3:(S2==0)=false:=by simpa using h3
     clear HN h3
     go_wp2_with fail
     exact⟨⟨k+1,by omega,by go_num,by rw[HN2.out],by rw[HN2.out],HR⟩,by simp[intOf];omega⟩
end Go.Proofs.YtlckmjiioohcmaaGreatDoor
