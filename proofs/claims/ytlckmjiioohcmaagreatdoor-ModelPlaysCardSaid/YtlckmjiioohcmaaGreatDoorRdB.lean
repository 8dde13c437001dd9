/-
  Walk of groundlingref19.without. Conditions: as the theorem says.
-/
import Derived.Test.YtlckmjiioohcmaaGreatDoorRdA
import Derived.Test.YtlckmjiioohcmaaGreatDoorPlAd
namespace Go.Proofs.YtlckmjiioohcmaaGreatDoor
open Go.RowKit
theorem takeS_zero (fr:List Bool) (s:Nat):takeS fr s 0=fr:=by
 apply List.ext_getElem (by simp[takeS])
 intro i h1 h2
 have h3:=takeS_get fr s 0 i
 rw[List.getD_eq_getElem?_getD,List.getElem?_eq_getElem h1,if_neg (by omega),List.getD_eq_getElem?_getD,List.getElem?_eq_getElem h2] at h3
 exact h3
theorem takeS_succ (fr:List Bool) (s k:Nat):takeS fr s (k+1)=(takeS fr s k).set (s+k) false:=by
 apply List.ext_getElem (by simp[takeS])
 intro i h1 h2
 rw[List.length_set] at h2
 have h3:=takeS_get fr s (k+1) i
 have h4:=takeS_get fr s k i
 rw[List.getD_eq_getElem?_getD,List.getElem?_eq_getElem h1] at h3
 rw[List.getD_eq_getElem?_getD,List.getElem?_eq_getElem h2] at h4
 simp only[Option.getD_some] at h3 h4
 rw[List.getElem_set,h3,h4]
 by_cases e:s+k=i
 ·rw[if_pos e,if_pos (by omega)]
 ·rw[if_neg e]
  by_cases h:s≤i∧i<s+k
  ·rw[if_pos h,if_pos (by omega)]
  ·rw[if_neg h,if_neg (by omega)]
set_option maxHeartbeats 4000000 in
set_option maxRecDepth 20000 in
theorem rWithout_any {w:World} {F:Option Addr} {fc:Nat} {fr:List Bool} (hF:Sl boR w (.slice F fr.length fc) fr) {s n:Nat} (hlen:fr.length≤1000000) (hn:s+n≤fr.length):
 Calls Tryz.prog 150 #[.slice F fr.length fc,.int .i64 (s:Int),.int .i64 (n:Int)] w fun e w'=> ∃A c,e=.returned (.slice A fr.length c)∧Own boR 4 w.heap.size w' (.slice A fr.length c) (takeS fr s n)∧Below w.heap.size w w':=by
 have HF:=Lib.hid hF
 have hW:IntKind.i64.wrap ((s:Int)+(n:Int))=(s:Int)+(n:Int):=IntWalk.i64_in _ (by omega)
 clear hF
 go_enter Tryz.func150,Tryz.ntmps150
 go_upto_region 2 with(at_builtin;refine wpList_append_sl _ rfl (.tmp 9) (.tmp 10) 138 rfl boR w.heap.size 4 _ 1 Tryz.underlying138 infoBo rfl (by decide) _ [] rfl (Own.empty _ _ _ (Nat.le_refl _)) _ fr rfl (HF.out.up (ba _ _)) (by simp;omega) (by decide) (by simp[World.size_alloc]) (fun w' _ cs y h=>boR_flat _ _ _ _ h) ?_;intro v1 w1 hown1 hg1 hat1)
 rw[List.nil_append] at hown1
 have HB1:=Lib.hid (show Below w.heap.size w w1 from(ba w _).grown hg1 (by simp[World.size_alloc]) (fun j hj=>by
  have:=((Own.empty (R:=boR) 4 w (Nat.le_refl w.heap.size)).lt j hj).1
  omega))
 obtain⟨A,c,rfl,hc1,hc2,hown⟩:=hown1.form
 have HO:=Lib.hid hown
 clear hown hown1 hg1 hat1 hc1 hc2
 go_wp2_with fail
 go_loopw [8] (fun iv wr=> ∃k:Nat,k≤n∧iv=.int .i64 ((s:Int)+(k:Int))∧Hid (Own boR 4 w.heap.size wr (.slice A fr.length c) (takeS fr s k))∧Hid (Below w.heap.size w wr)) (fun iv _=>s+n-(intOf iv).toNat)
 case atStart=>exact⟨0,by omega,by simp,Lib.hid (by rw[takeS_zero];exact HO.out),HB1⟩
 case round=>
  obtain⟨k,hk,rfl,HOk,HBk⟩:=hrel
  rename World=>wr
  by_cases hlt:k<n
  case neg=>
   obtain rfl:k=n:=by omega
   have t0:decide ((s:Int)+(k:Int)<(s:Int)+(k:Int))=false:=by simp
   go_wp2_with fail
   go_ret
   exact⟨A,c,rfl,HOk.out,HBk.out⟩
  have t0:decide ((s:Int)+(k:Int)<(s:Int)+(n:Int))=true:=decide_eq_true (by omega)
  have t0':decide ((k:Int)<(n:Int))=true:=decide_eq_true (by omega)
  have hk0:(0:Int)≤(s:Int)+(k:Int):=by omega
  have hk1:(s:Int)+(k:Int)<(fr.length:Int):=by omega
  have hN:((s:Int)+(k:Int)).toNat=s+k:=by omega
  have hW2:IntKind.i64.wrap ((s:Int)+(k:Int)+1)=(s:Int)+(k:Int)+1:=IntWalk.i64_in _ (by omega)
  have hks:s+k<(takeS fr s k).length:=by rw[takeS_len];omega
  obtain⟨g,cs,rfl,hg1,hg2,rfl,hcg,hfg⟩:=HOk.out.at_ hks
  have e0:=hcg 0 _ rfl
  have ef:=hfg (s+k)
  simp only[boR,Nat.mul_one,Nat.add_zero] at e0
  have HPT:=Lib.hid (HOk.out.put (k:=s+k) hks (x:=false) (cs:=[.bool false]) rfl (fun _ _ _ _ h=>h))
  simp only[putAt,boR,Nat.mul_one] at HPT
  rw[←takeS_succ] at HPT
  clear hcg hfg
  go_wp2_with fail
  have hbx:=HBk.out.grown HPT.out.2 HBk.out.size (fun z hz=>by injection hz with hz;omega)
  exact⟨⟨k+1,by omega,by go_num,Lib.hid HPT.out.1,Lib.hid hbx⟩,by simp[intOf];omega⟩
end Go.Proofs.YtlckmjiioohcmaaGreatDoor
