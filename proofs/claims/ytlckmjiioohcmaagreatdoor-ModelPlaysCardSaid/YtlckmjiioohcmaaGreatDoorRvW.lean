/-
  Walk of groundlingref15.Row, of venues that Check lets by. Conditions: as the theorem says.
-/
import Derived.Test.YtlckmjiioohcmaaGreatDoorPlSo
namespace Go.Proofs.YtlckmjiioohcmaaGreatDoor
open Go.RowKit
set_option maxHeartbeats 4000000 in
set_option maxRecDepth 20000 in
theorem rrow_any {w:World} {V:Option Addr} {vc:Nat} {x:Ve} (hv:Sl secR w (.slice V x.secs.length vc) x.secs) (hc:(checkV x).2=0) (sec row:Int) (hr:0≤row):
 Calls Tryz.prog 202 #[.agg #[.int .i64 x.shards,.int .i64 x.ttl,.int .i64 x.session,.slice V x.secs.length vc],.int .i64 sec,.int .i64 row] w fun e w'=>e=.returned (.tuple #[.int .i64 (someM sec row (plAll x.secs 0)).1,.int .i64 (someM sec row (plAll x.secs 0)).2.1,.int .i64 (someM sec row (plAll x.secs 0)).2.2])∧Below w.heap.size w w':=by
 have C1:=Lib.hid (fun W (hb:Below w.heap.size w W)=>rcheck_any (x:=x) (hv.up hb))
 have C2:=Lib.hid (fun W (hb:Below w.heap.size w W)=>rsome_any (hv.up hb) hc sec row hr)
 rw[hc] at C1
 generalize someM sec row (plAll x.secs 0)=M at C2⊢
 generalize(checkV x).1=ci at C1
 have tr:decide (row<0)=false:=decide_eq_false (by omega)
 clear hv hc hr
 go_enter Tryz.func202,Tryz.ntmps202
 go_upto_region 1 with fail
 obtain⟨q,hq⟩:∃q,w.heap.size=q:=⟨_,rfl⟩
 rw[hq]
 refine at_world (fun X=>Below w.heap.size w X∧BoxN X q 24 #[.int .i64 x.shards,.int .i64 x.ttl,.int .i64 x.session,.slice V x.secs.length vc]) ⟨ba _ _,hq▸BoxN.new w _ _⟩ fun w0 hw0=> ?_
 have B0:=Lib.hid hw0.1
 have K0:=Lib.hid hw0.2
 clear hw0
 have c0:=K0.out.cell 0 _ rfl
 have c1:=K0.out.cell 1 _ rfl
 have c2:=K0.out.cell 2 _ rfl
 have c3:=K0.out.cell 3 _ rfl
 have z0:=K0.out.lt
 go_wp2_with fail
 refine(C1.out _ B0.out).mono ?_
 rintro e w1 ⟨rfl,hb⟩
 have B1:=Lib.hid (B0.out.trans (hb.mono B0.out.size))
 have K1:=Lib.hid (K0.out.later hb)
 clear hb c0 c1 c2 c3 z0 K0 B0 C1
 have c0:=K1.out.cell 0 _ rfl
 have c1:=K1.out.cell 1 _ rfl
 have c2:=K1.out.cell 2 _ rfl
 have c3:=K1.out.cell 3 _ rfl
 have z0:=K1.out.lt
 go_wp2_with fail
 refine(C2.out _ B1.out).mono ?_
 rintro e w2 ⟨rfl,hb⟩
 have B2:=Lib.hid (B1.out.trans (hb.mono B1.out.size))
 clear hb c0 c1 c2 c3 z0 K1 B1 C2
 go_wp2_with fail
 exact bodyPost_ret (v:=.tuple #[.int .i64 M.1,.int .i64 M.2.1,.int .i64 M.2.2]) (by simp[results,Tryz.results202,go_sem]) rfl ⟨rfl,by first|exact B2.out|(rw[←hq];exact B2.out)⟩
end Go.Proofs.YtlckmjiioohcmaaGreatDoor
