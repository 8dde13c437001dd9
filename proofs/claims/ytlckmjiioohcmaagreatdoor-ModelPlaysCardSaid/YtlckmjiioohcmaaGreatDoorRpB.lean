/-
  Walk of groundlingref22.Target: it answers as plans.Target. Conditions: as the theorem says.
-/
import Derived.Test.YtlckmjiioohcmaaGreatDoorRpA
namespace Go.Proofs.YtlckmjiioohcmaaGreatDoor
open Go.RowKit
set_option maxHeartbeats 8000000 in
set_option maxRecDepth 20000 in
theorem rTarget_any (op:MOp) (w:World) (ho:OpOk op):
 Calls Tryz.prog 68 #[.agg (opCells op).toArray] w fun e w'=>e=.returned (.tuple #[.int .i64 (targetM op).1,.int .i64 (targetM op).2.1,.int .i64 (targetM op).2.2])∧Below w.heap.size w w':=by
 have C1:=Lib.hid (fun W=>rPlCheck_any op W)
 have hT:=Lib.hid (show targetM op=if plCheckM op≠0 then(0,0,plCheckM op) else if bits .and .i64 (usesK op.kind) 4≠0 then(op.seat,-1,0) else if bits .and .i64 (usesK op.kind) 64≠0 then(op.tk.seat,-1,0)
  else if bits .and .i64 (usesK op.kind) 8≠0 then(-1,op.section_,0) else(-1,-1,0) from rfl)
 have HK:=Lib.hid (@plCheckM_ok op)
 have hu:U32 op.tk.seat:=ho.2.2.2.2.2.2.2.1.1
 unfold U32 at hu
 generalize targetM op=T at hT⊢
 generalize plCheckM op=E at C1 hT HK
 obtain⟨k,oo,ti,se,sc,nn,tt,⟨a,b,c,d⟩,nw⟩:=op
 unfold opCells at C1⊢
 simp only at hT C1 HK hu⊢
 have hW:IntKind.i64.wrap a=a:=IntWalk.i64_in _ (by omega)
 clear ho hu
 go_enter Tryz.func68,Tryz.ntmps68
 go_wp2_with fail
 refine(C1.out _).mono ?_
 rintro e w1 ⟨rfl,hb⟩
 have B1:=Lib.hid ((ba w _).trans (hb.mono (ba w _).size))
 have k1:=(BoxN.new w 46 #[.int .i64 k,.int .u32 oo,.int .i64 ti,.int .i64 se,.int .i64 sc,.int .i64 nn,.int .u32 tt,.int .u32 a,.int .u32 b,.int .u64 c,.int .u64 d,.int .i64 nw]).later hb
 have c0:=k1.cell 0 _ rfl
 have c3:=k1.cell 3 _ rfl
 have c4:=k1.cell 4 _ rfl
 have c7:=k1.cell 7 _ rfl
 have z0:=k1.lt
 clear hb k1 C1
 by_cases h:E=0
 case neg=>
  obtain rfl:T=(0,0,E):=by rw[hT.out,if_pos h]
  have t:(E !=0)=true:=by simpa using h
  clear h hT HK
  go_wp2_with fail
  exact bodyPost_ret (v:=.tuple #[.int .i64 0,.int .i64 0,.int .i64 E]) (by simp[results,Tryz.results68,go_sem]) rfl ⟨rfl,B1.out⟩
 have hk:=HK.out h
 rw[if_neg (by simpa using h)] at hT
 subst h
 have hk:k=1∨k=2∨k=3∨k=4∨k=5∨k=6∨k=7∨k=8∨k=9∨k=10∨k=11∨k=12:=by omega
 clear HK
 rcases hk with rfl|rfl|rfl|rfl|rfl|rfl|rfl|rfl|rfl|rfl|rfl|rfl
 ·obtain rfl:T=(-1,-1,0):=by rw[hT.out,if_neg (by decide+kernel),if_neg (by decide+kernel),if_neg (by decide+kernel)]
  clear hT
  go_wp2_with fail
  exact bodyPost_ret (v:=.tuple #[.int .i64 (-1),.int .i64 (-1),.int .i64 0]) (by simp[results,Tryz.results68,go_sem]) rfl ⟨rfl,B1.out⟩
 ·obtain rfl:T=(se,-1,0):=by rw[hT.out,if_pos (by decide+kernel)]
  clear hT
  go_wp2_with fail
  exact bodyPost_ret (v:=.tuple #[.int .i64 (se),.int .i64 (-1),.int .i64 0]) (by simp[results,Tryz.results68,go_sem]) rfl ⟨rfl,B1.out⟩
 ·obtain rfl:T=(-1,sc,0):=by rw[hT.out,if_neg (by decide+kernel),if_neg (by decide+kernel),if_pos (by decide+kernel)]
  clear hT
  go_upto_region 17 with fail
  go_quiet (fail)
  go_wp2_with fail
  exact bodyPost_ret (v:=.tuple #[.int .i64 (-1),.int .i64 (sc),.int .i64 0]) (by simp[results,Tryz.results68,go_sem]) rfl ⟨rfl,(bdN B1.out _)⟩
 ·obtain rfl:T=(se,-1,0):=by rw[hT.out,if_pos (by decide+kernel)]
  clear hT
  go_wp2_with fail
  exact bodyPost_ret (v:=.tuple #[.int .i64 (se),.int .i64 (-1),.int .i64 0]) (by simp[results,Tryz.results68,go_sem]) rfl ⟨rfl,B1.out⟩
 ·obtain rfl:T=(se,-1,0):=by rw[hT.out,if_pos (by decide+kernel)]
  clear hT
  go_wp2_with fail
  exact bodyPost_ret (v:=.tuple #[.int .i64 (se),.int .i64 (-1),.int .i64 0]) (by simp[results,Tryz.results68,go_sem]) rfl ⟨rfl,B1.out⟩
 ·obtain rfl:T=(a,-1,0):=by rw[hT.out,if_neg (by decide+kernel),if_pos (by decide+kernel)]
  clear hT
  go_wp2_with fail
  exact bodyPost_ret (v:=.tuple #[.int .i64 (a),.int .i64 (-1),.int .i64 0]) (by simp[results,Tryz.results68,go_sem]) rfl ⟨rfl,B1.out⟩
 ·obtain rfl:T=(a,-1,0):=by rw[hT.out,if_neg (by decide+kernel),if_pos (by decide+kernel)]
  clear hT
  go_wp2_with fail
  exact bodyPost_ret (v:=.tuple #[.int .i64 (a),.int .i64 (-1),.int .i64 0]) (by simp[results,Tryz.results68,go_sem]) rfl ⟨rfl,B1.out⟩
 ·obtain rfl:T=(se,-1,0):=by rw[hT.out,if_pos (by decide+kernel)]
  clear hT
  go_wp2_with fail
  exact bodyPost_ret (v:=.tuple #[.int .i64 (se),.int .i64 (-1),.int .i64 0]) (by simp[results,Tryz.results68,go_sem]) rfl ⟨rfl,B1.out⟩
 ·obtain rfl:T=(a,-1,0):=by rw[hT.out,if_neg (by decide+kernel),if_pos (by decide+kernel)]
  clear hT
  go_wp2_with fail
  exact bodyPost_ret (v:=.tuple #[.int .i64 (a),.int .i64 (-1),.int .i64 0]) (by simp[results,Tryz.results68,go_sem]) rfl ⟨rfl,B1.out⟩
 ·obtain rfl:T=(-1,sc,0):=by rw[hT.out,if_neg (by decide+kernel),if_neg (by decide+kernel),if_pos (by decide+kernel)]
  clear hT
  go_upto_region 17 with fail
  go_quiet (fail)
  go_wp2_with fail
  exact bodyPost_ret (v:=.tuple #[.int .i64 (-1),.int .i64 (sc),.int .i64 0]) (by simp[results,Tryz.results68,go_sem]) rfl ⟨rfl,(bdN B1.out _)⟩
 ·obtain rfl:T=(-1,sc,0):=by rw[hT.out,if_neg (by decide+kernel),if_neg (by decide+kernel),if_pos (by decide+kernel)]
  clear hT
  go_upto_region 17 with fail
  go_quiet (fail)
  go_wp2_with fail
  exact bodyPost_ret (v:=.tuple #[.int .i64 (-1),.int .i64 (sc),.int .i64 0]) (by simp[results,Tryz.results68,go_sem]) rfl ⟨rfl,(bdN B1.out _)⟩
 ·obtain rfl:T=(-1,-1,0):=by rw[hT.out,if_neg (by decide+kernel),if_neg (by decide+kernel),if_neg (by decide+kernel)]
  clear hT
  go_wp2_with fail
  exact bodyPost_ret (v:=.tuple #[.int .i64 (-1),.int .i64 (-1),.int .i64 0]) (by simp[results,Tryz.results68,go_sem]) rfl ⟨rfl,B1.out⟩
end Go.Proofs.YtlckmjiioohcmaaGreatDoor
