/-
  A step of the document's world: the region in which it is written down. Conditions: as the theorem says.
-/
import Derived.Test.YtlngbdggehghgaaScM
namespace Go.Proofs.Ytlngbdggehghgaa
set_option linter.unusedSimpArgs false
set_option linter.unusedVariables false
open Go.RowKit
theorem NoLate.off {late:Nat→Bool} {listed:Array Bool} {p:Prop} (j:Nat) (h1:late j=true) (h2:listed.getD j false=true) (n:NoLate late listed):p:=by
 rw[n j h1] at h2;cases h2
set_option maxRecDepth 20000 in
set_option maxHeartbeats 8000000 in
theorem reg16 {Q:Exit→Act→World→Prop} {B b q q9 on oc:Nat} {kv:Value} {F0:Nat→Prop} {w:World} {fs:List Bool} {gv rv wv nv p4 p5 p6:Value} {oA:Option Addr} {gl rl:List Tk} {wl:List Wa} {nl:List Int} {T:Tk} {qw:Wa} {a:Act} {x10:World}
 (hQ:∀c a i v w,Q (.panic c) (Act.put a i v) w→Q (.panic c) a w) (E0:EvA a 134 [(0,.pointer (some ⟨b,0,none⟩)),(3,.pointer (some ⟨q,0,none⟩)),(4,p4),(5,p5),(6,p6),(8,.slice oA on oc),(9,.pointer (some ⟨q9,0,none⟩))]) (H10:SQ B b kv F0 w fs gv rv wv nv gv rv wv nv gl rl wl nl T x10) (hq:q=w.heap.size) (K9:Cells x10 q9 qw.cells)
 (F3:∀k,WBf b gv rv wv nv k→k<q9) (hrs:rl.length<1000000) (hws:wl.length<1000000) (hns:nl.length<1000000) (hzb:Bd (on:Int))
 (hnext:∀(a':Act) (rv' wv' nv':Value) (X:World),EvA a' 134 [(0,.pointer (some ⟨b,0,none⟩)),(3,.pointer (some ⟨q,0,none⟩)),(4,p4),(5,p5),(6,p6),(8,.slice oA on oc),(9,.pointer (some ⟨q9,0,none⟩))]→SQ B b kv F0 w fs gv rv' wv' nv' gv rv' wv' nv' gl (rl++[T]) (wl++[qw]) (nl++[(on:Int)]) T X→Chg (fun k=>WBf b gv rv wv nv k) x10 X→Q .normal a' X):
 (Code.region 16 ((opsIn 16 (Try.f81.body.getD .skip)).getD #[]) true).wp Try.prog Q a x10:=by
 subst hq
 have H10:=Lib.hid H10
 have K9:=Lib.hid K9
 have D10:=H10.out.wx.ds
 simp only[Dd,List.pairwise_cons,List.mem_cons,List.not_mem_nil,or_false,forall_eq_or_imp,forall_eq,Option.some.injEq,ne_eq] at D10
 obtain⟨⟨_,dr,dw,dn⟩,_⟩:=D10
 have nS1:∀k,(rv.ownBlock=some k∨wv.ownBlock=some k∨nv.ownBlock=some k)→k≠b:=fun k hk e=>by
  subst e
  rcases hk with hk|hk|hk
  ·exact dr _ rfl hk
  ·exact dw _ rfl hk
  ·exact dn _ rfl hk
 have nS:∀k,(k=b∨rv.ownBlock=some k∨wv.ownBlock=some k∨nv.ownBlock=some k)→WBf b gv rv wv nv k:=fun k hk=>by
  rcases hk with hk|hk|hk|hk
  ·exact .inl hk
  ·exact .inr (.inr (.inl hk))
  ·exact .inr (.inr (.inr (.inl hk)))
  ·exact .inr (.inr (.inr (.inr hk)))
 have nSq:¬(w.heap.size=b∨rv.ownBlock=some w.heap.size∨wv.ownBlock=some w.heap.size∨nv.ownBlock=some w.heap.size):=fun e=>by have:=H10.out.nw _ (nS _ e);omega
 have nS9:¬(q9=b∨rv.ownBlock=some q9∨wv.ownBlock=some q9∨nv.ownBlock=some q9):=fun e=>by have:=F3 _ (nS _ e);omega
 have g10:x10.cell? ⟨b,10,none⟩=some rv:=H10.out.wx.cx (j:=1) rfl
 have g11:x10.cell? ⟨b,11,none⟩=some wv:=H10.out.wx.cx (j:=2) rfl
 have g12:x10.cell? ⟨b,12,none⟩=some nv:=H10.out.wx.cx (j:=3) rfl
 have hS:=Chg.drew (fun k=>k=b∨rv.ownBlock=some k∨wv.ownBlock=some k∨nv.ownBlock=some k) x10
 have hS1:=Chg.drew (fun k=>rv.ownBlock=some k∨wv.ownBlock=some k∨nv.ownBlock=some k) x10
 have hSf:∀{listed:Array Bool},NoLate (fun j=>j==27||j==30||j==33) listed→(fun X=>Chg (fun k=>rv.ownBlock=some k∨wv.ownBlock=some k∨nv.ownBlock=some k) x10 X) x10.drew:=fun _=>hS1
 have tail:∀(a1:Act) (rA wA nA:Option Addr) (rc wc nc:Nat) (RL:List Tk) (WL:List Wa) (NL:List Int) (X:World),EvA a1 134 [(0,.pointer (some ⟨b,0,none⟩)),(3,.pointer (some ⟨w.heap.size,0,none⟩)),(4,p4),(5,p5),(6,p6),(8,.slice oA on oc),(9,.pointer (some ⟨q9,0,none⟩)),(99,.pointer (some ⟨b,0,none⟩)),(100,.pointer (some ⟨b,0,none⟩)),(101,.pointer (some ⟨b,0,none⟩)),(108,.slice rA RL.length rc),(115,.slice wA WL.length wc),(123,.slice nA NL.length nc)]→Hid (RL=rl++[T])→Hid (WL=wl++[qw])→Hid (NL=nl++[(on:Int)])→
  RS B b kv F0 w fs gv rv wv nv (.slice rA RL.length rc) (.slice wA WL.length wc) (.slice nA NL.length nc) gl RL WL NL T qw (on:Int) x10 none none none X→
  wpAnyT Try.prog .any ((opsIn 16 (Try.f81.body.getD .skip)).getD #[]) Q (fun j=>j==27||j==30||j==33) (fun X=>Chg (fun k=>k=b∨rv.ownBlock=some k∨wv.ownBlock=some k∨nv.ownBlock=some k) x10 X) (fun X=>Chg (fun k=>rv.ownBlock=some k∨wv.ownBlock=some k∨nv.ownBlock=some k) x10 X) 9 #[true,true,true,true,true,true,true,true,true,true,true,true,true,true,true,true,true,true,true,true,true,true,true,true,true,false,false,false,false,false,false,false,false,false] a1 X:=by
  intro a1 rA wA nA rc wc nc RL WL NL X E HRL HWL HNL hX
  have SX:=Lib.hid hX.sq
  have hc:=hX.ch
  clear hX
  simp only[Try.f81,Option.getD_some,opsIn,Option.or,Nat.reduceEqDiff,↓reduceIte]
  have cS:Chg (fun k=>k=b∨rv.ownBlock=some k∨wv.ownBlock=some k∨nv.ownBlock=some k) x10 X:=hc.mono (fun _ _ e=> .inr e)
  have hf:∀{listed:Array Bool},NoLate (fun j=>j==27||j==30||j==33) listed→(fun X=>Chg (fun k=>rv.ownBlock=some k∨wv.ownBlock=some k∨nv.ownBlock=some k) x10 X) X:=fun _=>hc
  refine takeA (i:=25) (d:=124) (v:=.pointer (some ⟨b,0,none⟩)) E rfl rfl (by decide) rfl (by decide+kernel) (by decide+kernel) (by decide+kernel) rfl (fun _ _ _ h=>hQ _ _ _ _ _ h) (yieldsE E 7 rfl rfl (fun f hf W hS=>by clear E;go_simp)) cS hf fun b1 E1=> ?_
  clear E
  have E:=E1
  clear E1
  refine takeA (i:=26) (d:=125) (v:=.pointer (some ⟨b,10,none⟩)) E rfl rfl (by decide) rfl (by decide+kernel) (by decide+kernel) (by decide+kernel) rfl (fun _ _ _ h=>hQ _ _ _ _ _ h) (yieldsE E 0 rfl rfl (fun f hf W hS=>by clear E;go_simp)) cS hf fun b1 E1=> ?_
  clear E
  have E:=E1
  clear E1
  refine wpAnyT_all (rs:=[27]) (by decide+kernel) (by simp) fun j hj=> ?_
  simp only[List.mem_cons,List.not_mem_nil,or_false] at hj
  subst hj
  refine heldOpT (i:=27) rfl fun K hK=> ?_
  have c1:X.cell? ⟨b,10,none⟩=some rv:=SX.out.wx.cx (j:=1) rfl
  have z1:X.frozen? ⟨b,10,none⟩=false:=SX.out.wx.box.f 10
  refine wpList_store_atA rfl 69 (.tmp 125) (.tmp 108) rfl rfl b 10 (.slice rA RL.length rc) (E.at 0 rfl) (E.at 12 rfl) (by clear E;go_simp) ?_
  have s2:=SX.out.set10
  have c2:=cS.trans (Chg.set (F:=fun k=>k=b) X (a:=⟨b,10,none⟩) (.slice rA RL.length rc) rfl) (fun _ _ e=> .inl e)
  obtain⟨Z1,hZ⟩:∃Z,Z=X.setCell ⟨b,10,none⟩ (.slice rA RL.length rc):=⟨_,rfl⟩
  rw[←hZ] at s2 c2⊢
  clear hZ SX cS c1 z1
  have SX:=Lib.hid s2
  have cS:=c2
  clear s2 c2
  refine hK.out _ _ ⟨cS,NoLate.off 27 rfl (by decide+kernel), ?_⟩
  clear hK K
  refine takeA (i:=28) (d:=126) (v:=.pointer (some ⟨b,0,none⟩)) E rfl rfl (by decide) rfl (by decide+kernel) (by decide+kernel) (by decide+kernel) rfl (fun _ _ _ h=>hQ _ _ _ _ _ h) (yieldsE E 10 rfl rfl (fun f hf W hS=>by clear E;go_simp)) cS (NoLate.off 27 rfl (by decide+kernel)) fun b1 E1=> ?_
  clear E
  have E:=E1
  clear E1
  refine takeA (i:=29) (d:=127) (v:=.pointer (some ⟨b,11,none⟩)) E rfl rfl (by decide) rfl (by decide+kernel) (by decide+kernel) (by decide+kernel) rfl (fun _ _ _ h=>hQ _ _ _ _ _ h) (yieldsE E 0 rfl rfl (fun f hf W hS=>by clear E;go_simp)) cS (NoLate.off 27 rfl (by decide+kernel)) fun b1 E1=> ?_
  clear E
  have E:=E1
  clear E1
  refine wpAnyT_all (rs:=[30]) (by decide+kernel) (by simp) fun j hj=> ?_
  simp only[List.mem_cons,List.not_mem_nil,or_false] at hj
  subst hj
  refine heldOpT (i:=30) rfl fun K hK=> ?_
  have c1:Z1.cell? ⟨b,11,none⟩=some wv:=SX.out.wx.cx (j:=2) rfl
  have z1:Z1.frozen? ⟨b,11,none⟩=false:=SX.out.wx.box.f 11
  refine wpList_store_atA rfl 74 (.tmp 127) (.tmp 115) rfl rfl b 11 (.slice wA WL.length wc) (E.at 0 rfl) (E.at 15 rfl) (by clear E;go_simp) ?_
  have s2:=SX.out.set11
  have c2:=cS.trans (Chg.set (F:=fun k=>k=b) Z1 (a:=⟨b,11,none⟩) (.slice wA WL.length wc) rfl) (fun _ _ e=> .inl e)
  obtain⟨Z2,hZ⟩:∃Z,Z=Z1.setCell ⟨b,11,none⟩ (.slice wA WL.length wc):=⟨_,rfl⟩
  rw[←hZ] at s2 c2⊢
  clear hZ SX cS c1 z1
  have SX:=Lib.hid s2
  have cS:=c2
  clear s2 c2
  refine hK.out _ _ ⟨cS,NoLate.off 30 rfl (by decide+kernel), ?_⟩
  clear hK K
  refine takeA (i:=31) (d:=128) (v:=.pointer (some ⟨b,0,none⟩)) E rfl rfl (by decide) rfl (by decide+kernel) (by decide+kernel) (by decide+kernel) rfl (fun _ _ _ h=>hQ _ _ _ _ _ h) (yieldsE E 13 rfl rfl (fun f hf W hS=>by clear E;go_simp)) cS (NoLate.off 27 rfl (by decide+kernel)) fun b1 E1=> ?_
  clear E
  have E:=E1
  clear E1
  refine takeA (i:=32) (d:=129) (v:=.pointer (some ⟨b,12,none⟩)) E rfl rfl (by decide) rfl (by decide+kernel) (by decide+kernel) (by decide+kernel) rfl (fun _ _ _ h=>hQ _ _ _ _ _ h) (yieldsE E 0 rfl rfl (fun f hf W hS=>by clear E;go_simp)) cS (NoLate.off 27 rfl (by decide+kernel)) fun b1 E1=> ?_
  clear E
  have E:=E1
  clear E1
  refine wpAnyT_all (rs:=[33]) (by decide+kernel) (by simp) fun j hj=> ?_
  simp only[List.mem_cons,List.not_mem_nil,or_false] at hj
  subst hj
  refine heldOpT (i:=33) rfl fun K hK=> ?_
  have c1:Z2.cell? ⟨b,12,none⟩=some nv:=SX.out.wx.cx (j:=3) rfl
  have z1:Z2.frozen? ⟨b,12,none⟩=false:=SX.out.wx.box.f 12
  refine wpList_store_atA rfl 42 (.tmp 129) (.tmp 123) rfl rfl b 12 (.slice nA NL.length nc) (E.at 0 rfl) (E.at 18 rfl) (by clear E;go_simp) ?_
  have s2:=SX.out.set12
  have c2:=cS.trans (Chg.set (F:=fun k=>k=b) Z2 (a:=⟨b,12,none⟩) (.slice nA NL.length nc) rfl) (fun _ _ e=> .inl e)
  obtain⟨Z3,hZ⟩:∃Z,Z=Z2.setCell ⟨b,12,none⟩ (.slice nA NL.length nc):=⟨_,rfl⟩
  rw[←hZ] at s2 c2⊢
  clear hZ SX cS c1 z1
  have SX:=Lib.hid s2
  have cS:=c2
  clear s2 c2
  refine hK.out _ _ ⟨cS,NoLate.off 33 rfl (by decide+kernel), ?_⟩
  clear hK K
  refine wpAnyT_done (by decide+kernel) ?_ _
  have S3:=SX.out
  have e1:=HRL.out
  have e2:=HWL.out
  have e3:=HNL.out
  rw[e1,e2,e3] at S3 E
  exact hnext _ _ _ _ _ (E.pick [6,7,8,9,10,11,12] rfl) S3 (cS.mono (fun k _ e=>nS k e))
 have E:=E0
 clear E0
 simp only[Try.f81,Option.getD_some,opsIn,Option.or,Nat.reduceEqDiff,↓reduceIte]
 refine wp_region_T (fun j=>j==27||j==30||j==33) (fun X=>Chg (fun k=>k=b∨rv.ownBlock=some k∨wv.ownBlock=some k∨nv.ownBlock=some k) x10 X) (fun X=>Chg (fun k=>rv.ownBlock=some k∨wv.ownBlock=some k∨nv.ownBlock=some k) x10 X) (by kernel_rfl) ?_
 refine takeA (i:=0) (d:=99) (v:=.pointer (some ⟨b,0,none⟩)) E rfl rfl (by decide) rfl (by decide+kernel) (by decide+kernel) (by decide+kernel) rfl (fun _ _ _ h=>hQ _ _ _ _ _ h) (yieldsE E 0 rfl rfl (fun f hf W hS=>by clear E;go_simp)) hS hSf fun b1 E1=> ?_
 clear E
 have E:=E1
 clear E1
 refine takeA (i:=1) (d:=100) (v:=.pointer (some ⟨b,0,none⟩)) E rfl rfl (by decide) rfl (by decide+kernel) (by decide+kernel) (by decide+kernel) rfl (fun _ _ _ h=>hQ _ _ _ _ _ h) (yieldsE E 1 rfl rfl (fun f hf W hS=>by clear E;go_simp)) hS hSf fun b1 E1=> ?_
 clear E
 have E:=E1
 clear E1
 refine takeA (i:=2) (d:=101) (v:=.pointer (some ⟨b,0,none⟩)) E rfl rfl (by decide) rfl (by decide+kernel) (by decide+kernel) (by decide+kernel) rfl (fun _ _ _ h=>hQ _ _ _ _ _ h) (yieldsE E 2 rfl rfl (fun f hf W hS=>by clear E;go_simp)) hS hSf fun b1 E1=> ?_
 clear E
 have E:=E1
 clear E1
 refine takeA (i:=3) (d:=102) (v:=.pointer (some ⟨b,0,none⟩)) E rfl rfl (by decide) rfl (by decide+kernel) (by decide+kernel) (by decide+kernel) rfl (fun _ _ _ h=>hQ _ _ _ _ _ h) (yieldsE E 3 rfl rfl (fun f hf W hS=>by clear E;go_simp)) hS hSf fun b1 E1=> ?_
 clear E
 have E:=E1
 clear E1
 refine takeA (i:=4) (d:=103) (v:=.pointer (some ⟨b,0,none⟩)) E rfl rfl (by decide) rfl (by decide+kernel) (by decide+kernel) (by decide+kernel) rfl (fun _ _ _ h=>hQ _ _ _ _ _ h) (yieldsE E 0 rfl rfl (fun f hf W hS=>by clear E;go_simp)) hS hSf fun b1 E1=> ?_
 clear E
 have E:=E1
 clear E1
 refine takeA (i:=5) (d:=104) (v:=.pointer (some ⟨b,10,none⟩)) E rfl rfl (by decide) rfl (by decide+kernel) (by decide+kernel) (by decide+kernel) rfl (fun _ _ _ h=>hQ _ _ _ _ _ h) (yieldsE E 0 rfl rfl (fun f hf W hS=>by clear E;go_simp)) hS hSf fun b1 E1=> ?_
 clear E
 have E:=E1
 clear E1
 refine takeA (i:=10) (d:=109) (v:=.pointer (some ⟨b,0,none⟩)) E rfl rfl (by decide) rfl (by decide+kernel) (by decide+kernel) (by decide+kernel) rfl (fun _ _ _ h=>hQ _ _ _ _ _ h) (yieldsE E 6 rfl rfl (fun f hf W hS=>by clear E;go_simp)) hS hSf fun b1 E1=> ?_
 clear E
 have E:=E1
 clear E1
 refine takeA (i:=11) (d:=110) (v:=.pointer (some ⟨b,0,none⟩)) E rfl rfl (by decide) rfl (by decide+kernel) (by decide+kernel) (by decide+kernel) rfl (fun _ _ _ h=>hQ _ _ _ _ _ h) (yieldsE E 0 rfl rfl (fun f hf W hS=>by clear E;go_simp)) hS hSf fun b1 E1=> ?_
 clear E
 have E:=E1
 clear E1
 refine takeA (i:=12) (d:=111) (v:=.pointer (some ⟨b,11,none⟩)) E rfl rfl (by decide) rfl (by decide+kernel) (by decide+kernel) (by decide+kernel) rfl (fun _ _ _ h=>hQ _ _ _ _ _ h) (yieldsE E 0 rfl rfl (fun f hf W hS=>by clear E;go_simp)) hS hSf fun b1 E1=> ?_
 clear E
 have E:=E1
 clear E1
 refine takeA (i:=17) (d:=116) (v:=.pointer (some ⟨b,0,none⟩)) E rfl rfl (by decide) rfl (by decide+kernel) (by decide+kernel) (by decide+kernel) rfl (fun _ _ _ h=>hQ _ _ _ _ _ h) (yieldsE E 9 rfl rfl (fun f hf W hS=>by clear E;go_simp)) hS hSf fun b1 E1=> ?_
 clear E
 have E:=E1
 clear E1
 refine takeA (i:=18) (d:=117) (v:=.pointer (some ⟨b,0,none⟩)) E rfl rfl (by decide) rfl (by decide+kernel) (by decide+kernel) (by decide+kernel) rfl (fun _ _ _ h=>hQ _ _ _ _ _ h) (yieldsE E 0 rfl rfl (fun f hf W hS=>by clear E;go_simp)) hS hSf fun b1 E1=> ?_
 clear E
 have E:=E1
 clear E1
 refine takeA (i:=19) (d:=118) (v:=.pointer (some ⟨b,12,none⟩)) E rfl rfl (by decide) rfl (by decide+kernel) (by decide+kernel) (by decide+kernel) rfl (fun _ _ _ h=>hQ _ _ _ _ _ h) (yieldsE E 0 rfl rfl (fun f hf W hS=>by clear E;go_simp)) hS hSf fun b1 E1=> ?_
 clear E
 have E:=E1
 clear E1
 refine takeA (i:=21) (d:=120) (v:=.slice oA on oc) E rfl rfl (by decide) rfl (by decide+kernel) (by decide+kernel) (by decide+kernel) rfl (fun _ _ _ h=>hQ _ _ _ _ _ h) (yieldsE E 17 rfl rfl (fun f hf W hS=>by clear E;go_simp)) hS hSf fun b1 E1=> ?_
 clear E
 have E:=E1
 clear E1
 refine takeA (i:=22) (d:=121) (v:=.int .i64 (on:Int)) E rfl rfl (by decide) rfl (by decide+kernel) (by decide+kernel) (by decide+kernel) rfl (fun _ _ _ h=>hQ _ _ _ _ _ h) (yieldsE E 0 rfl rfl (fun f hf W hS=>by clear E;go_simp)) hS hSf fun b1 E1=> ?_
 clear E
 have E:=E1
 clear E1
 refine loadA (i:=6) (d:=105) (v:=rv) E rfl rfl (by decide) rfl (by decide+kernel) (by decide+kernel) (by decide+kernel) rfl (by decide+kernel) (by decide+kernel) rfl (fun _ _ _ h=>hQ _ _ _ _ _ h) (yieldsE E 8 rfl rfl (fun f hf W hW=>by have hc:=hW.2.cell g10 (fun e=>nS1 _ e rfl);clear E;go_simp)) hS hS1 fun b1 E1=> ?_
 clear E
 have E:=E1
 clear E1
 refine loadA (i:=13) (d:=112) (v:=wv) E rfl rfl (by decide) rfl (by decide+kernel) (by decide+kernel) (by decide+kernel) rfl (by decide+kernel) (by decide+kernel) rfl (fun _ _ _ h=>hQ _ _ _ _ _ h) (yieldsE E 6 rfl rfl (fun f hf W hW=>by have hc:=hW.2.cell g11 (fun e=>nS1 _ e rfl);clear E;go_simp)) hS hS1 fun b1 E1=> ?_
 clear E
 have E:=E1
 clear E1
 refine loadA (i:=20) (d:=119) (v:=nv) E rfl rfl (by decide) rfl (by decide+kernel) (by decide+kernel) (by decide+kernel) rfl (by decide+kernel) (by decide+kernel) rfl (fun _ _ _ h=>hQ _ _ _ _ _ h) (yieldsE E 4 rfl rfl (fun f hf W hW=>by have hc:=hW.2.cell g12 (fun e=>nS1 _ e rfl);clear E;go_simp)) hS hS1 fun b1 E1=> ?_
 clear E
 have E:=E1
 clear E1
 refine takeA (i:=7) (d:=106) (v:=.agg T.cells.toArray) E rfl rfl (by decide) rfl (by decide+kernel) (by decide+kernel) (by decide+kernel) rfl (fun _ _ _ h=>hQ _ _ _ _ _ h) (yieldsIf_load_mid rfl 35 (.tmp 3) rfl (w.heap.size) 0 (E.at 18 rfl) (T.cells) _ (fun X hX=>(H10.out.c.chg hX nSq).range) Try.underlying35 rfl (by kernel_rfl)) hS hSf fun b1 E1=> ?_
 clear E
 have E:=E1
 clear E1
 refine takeA (i:=14) (d:=113) (v:=.agg qw.cells.toArray) E rfl rfl (by decide) rfl (by decide+kernel) (by decide+kernel) (by decide+kernel) rfl (fun _ _ _ h=>hQ _ _ _ _ _ h) (yieldsIf_load_mid rfl 37 (.tmp 9) rfl (q9) 0 (E.at 24 rfl) (qw.cells) _ (fun X hX=>(K9.out.chg hX nS9).range) Try.underlying37 rfl (by kernel_rfl)) hS hSf fun b1 E1=> ?_
 clear E
 have E:=E1
 clear E1
 refine at_world (fun X=>RS B b kv F0 w fs gv rv wv nv rv wv nv gl rl wl nl T qw (on:Int) x10 none none none X) ⟨H10.out.still (Chg.drew _ _),hS1,fun k hk=>(by cases hk),fun k hk=>(by cases hk),fun k hk=>(by cases hk)⟩ fun X0 hX0=> ?_
 have S0:=Lib.hid hX0
 clear hX0 g10 g11 g12 hS hS1 hSf
 refine wpAnyT_all (rs:=[8,15,23]) (by decide+kernel) (by simp) fun j hj=> ?_
 simp only[List.mem_cons,List.not_mem_nil,or_false] at hj
 rcases hj with rfl|rfl|rfl
 ·refine heldOpT (i:=8) rfl fun K hK=> ?_
  refine wpList_one_tk rfl (.tmp 106) rfl T (E.at 1 rfl) ?_
  have Sn:=S0.out.al8
  obtain⟨k8,hk⟩:∃k,X0.heap.size=k:=⟨_,rfl⟩
  rw[hk] at Sn⊢
  refine at_world (fun Y=>RS B b kv F0 w fs gv rv wv nv rv wv nv gl rl wl nl T qw (on:Int) x10 (some k8) none none Y) Sn fun X1 hY=> ?_
  clear hk Sn
  refine hK.out _ _ ⟨hY.ch.mono (fun _ _ e=> .inr e),fun _=>hY.ch, ?_⟩
  have S1:=Lib.hid hY
  clear hY hK K S0
  refine wpAnyT_at (E.put 107 (.slice (some ⟨k8,0,none⟩) 1 1) (by decide) rfl) fun b1 E1=> ?_
  clear E
  have E:=E1
  clear E1
  refine wpAnyT_all (rs:=[9,15,23]) (by decide+kernel) (by simp) fun j hj=> ?_
  simp only[List.mem_cons,List.not_mem_nil,or_false] at hj
  rcases hj with rfl|rfl|rfl
  ·refine heldOpT (i:=9) rfl fun K hK=> ?_
   refine wpList_append_sl _ rfl (.tmp 105) (.tmp 107) 69 rfl tkR B 35 _ 56 Try.underlying69 infoK rfl (by decide) rv rl (E.at 5 rfl) S1.out.sq.wx.r _ [T] (E.at 0 rfl) (S1.out.t8 _ rfl).2.1.sl (by simp only[List.length_cons,List.length_nil];omega) (by decide) (by have h1:=S1.out.sq.bB;have h2:=S1.out.sq.sz;omega) (fun w' _ cs y h=>tkR_flat _ _ _ _ h) ?_
   intro v1 y1 h1 h2 h3
   obtain⟨RL,hRL⟩:∃L,L=rl++[T]:=⟨_,rfl⟩
   rw[←hRL] at h1
   have HRL:=Lib.hid hRL
   clear hRL
   obtain⟨rA,rc,rfl,_,_,_⟩:=h1.form
   have Sn:=S1.out.ap9 h1 h2 h3
   clear h1 h2 h3
   refine at_world (fun Y=>RS B b kv F0 w fs gv rv wv nv (.slice rA RL.length rc) wv nv gl RL wl nl T qw (on:Int) x10 none none none Y) Sn fun X2 hY=> ?_
   clear Sn
   refine hK.out _ _ ⟨hY.ch.mono (fun _ _ e=> .inr e),fun _=>hY.ch, ?_⟩
   have S2:=Lib.hid hY
   clear hY hK K S1
   refine wpAnyT_at (E.put 108 (.slice rA RL.length rc) (by decide) rfl) fun b1 E1=> ?_
   clear E
   have E:=E1
   clear E1
   refine wpAnyT_all (rs:=[15,23]) (by decide+kernel) (by simp) fun j hj=> ?_
   simp only[List.mem_cons,List.not_mem_nil,or_false] at hj
   rcases hj with rfl|rfl
   ·refine heldOpT (i:=15) rfl fun K hK=> ?_
    refine wpList_one_wa rfl (.tmp 113) rfl qw (E.at 2 rfl) ?_
    have Sn:=S2.out.al15
    obtain⟨k15,hk⟩:∃k,X2.heap.size=k:=⟨_,rfl⟩
    rw[hk] at Sn⊢
    refine at_world (fun Y=>RS B b kv F0 w fs gv rv wv nv (.slice rA RL.length rc) wv nv gl RL wl nl T qw (on:Int) x10 none (some k15) none Y) Sn fun X3 hY=> ?_
    clear hk Sn
    refine hK.out _ _ ⟨hY.ch.mono (fun _ _ e=> .inr e),fun _=>hY.ch, ?_⟩
    have S3:=Lib.hid hY
    clear hY hK K S2
    refine wpAnyT_at (E.put 114 (.slice (some ⟨k15,0,none⟩) 1 1) (by decide) rfl) fun b1 E1=> ?_
    clear E
    have E:=E1
    clear E1
    refine wpAnyT_all (rs:=[16,23]) (by decide+kernel) (by simp) fun j hj=> ?_
    simp only[List.mem_cons,List.not_mem_nil,or_false] at hj
    rcases hj with rfl|rfl
    ·refine heldOpT (i:=16) rfl fun K hK=> ?_
     refine wpList_append_sl _ rfl (.tmp 112) (.tmp 114) 74 rfl waR B 37 _ 24 Try.underlying74 infoWa rfl (by decide) wv wl (E.at 6 rfl) S3.out.sq.wx.wt _ [qw] (E.at 0 rfl) (S3.out.t15 _ rfl).2.1.sl (by simp only[List.length_cons,List.length_nil];omega) (by decide) (by have h1:=S3.out.sq.bB;have h2:=S3.out.sq.sz;omega) (fun w' _ cs y h=>waR_flat _ _ _ _ h) ?_
     intro v1 y1 h1 h2 h3
     obtain⟨WL,hWL⟩:∃L,L=wl++[qw]:=⟨_,rfl⟩
     rw[←hWL] at h1
     have HWL:=Lib.hid hWL
     clear hWL
     obtain⟨wA,wc,rfl,_,_,_⟩:=h1.form
     have Sn:=S3.out.ap16 h1 h2 h3
     clear h1 h2 h3
     refine at_world (fun Y=>RS B b kv F0 w fs gv rv wv nv (.slice rA RL.length rc) (.slice wA WL.length wc) nv gl RL WL nl T qw (on:Int) x10 none none none Y) Sn fun X4 hY=> ?_
     clear Sn
     refine hK.out _ _ ⟨hY.ch.mono (fun _ _ e=> .inr e),fun _=>hY.ch, ?_⟩
     have S4:=Lib.hid hY
     clear hY hK K S3
     refine wpAnyT_at (E.put 115 (.slice wA WL.length wc) (by decide) rfl) fun b1 E1=> ?_
     clear E
     have E:=E1
     clear E1
     refine wpAnyT_all (rs:=[23]) (by decide+kernel) (by simp) fun j hj=> ?_
     simp only[List.mem_cons,List.not_mem_nil,or_false] at hj
     subst hj
     refine heldOpT (i:=23) rfl fun K hK=> ?_
     refine wpList_one_in rfl (.tmp 121) rfl (on:Int) (E.at 9 rfl) ?_
     have Sn:=S4.out.al23 hzb
     obtain⟨k23,hk⟩:∃k,X4.heap.size=k:=⟨_,rfl⟩
     rw[hk] at Sn⊢
     refine at_world (fun Y=>RS B b kv F0 w fs gv rv wv nv (.slice rA RL.length rc) (.slice wA WL.length wc) nv gl RL WL nl T qw (on:Int) x10 none none (some k23) Y) Sn fun X5 hY=> ?_
     clear hk Sn
     refine hK.out _ _ ⟨hY.ch.mono (fun _ _ e=> .inr e),fun _=>hY.ch, ?_⟩
     have S5:=Lib.hid hY
     clear hY hK K S4
     refine wpAnyT_at (E.put 122 (.slice (some ⟨k23,0,none⟩) 1 1) (by decide) rfl) fun b1 E1=> ?_
     clear E
     have E:=E1
     clear E1
     refine wpAnyT_all (rs:=[24]) (by decide+kernel) (by simp) fun j hj=> ?_
     simp only[List.mem_cons,List.not_mem_nil,or_false] at hj
     subst hj
     refine heldOpT (i:=24) rfl fun K hK=> ?_
     refine wpList_append_sl _ rfl (.tmp 119) (.tmp 122) 42 rfl intR B 3 _ 8 Try.underlying42 infoI rfl (by decide) nv nl (E.at 7 rfl) S5.out.sq.wx.n _ [(on:Int)] (E.at 0 rfl) (S5.out.t23 _ rfl).2.1.sl (by simp only[List.length_cons,List.length_nil];omega) (by decide) (by have h1:=S5.out.sq.bB;have h2:=S5.out.sq.sz;omega) (fun w' _ cs y h=>inR_flat _ _ _ _ h) ?_
     intro v1 y1 h1 h2 h3
     obtain⟨NL,hNL⟩:∃L,L=nl++[(on:Int)]:=⟨_,rfl⟩
     rw[←hNL] at h1
     have HNL:=Lib.hid hNL
     clear hNL
     obtain⟨nA,nc,rfl,_,_,_⟩:=h1.form
     have Sn:=S5.out.ap24 h1 h2 h3
     clear h1 h2 h3
     refine at_world (fun Y=>RS B b kv F0 w fs gv rv wv nv (.slice rA RL.length rc) (.slice wA WL.length wc) (.slice nA NL.length nc) gl RL WL NL T qw (on:Int) x10 none none none Y) Sn fun X6 hY=> ?_
     clear Sn
     refine hK.out _ _ ⟨hY.ch.mono (fun _ _ e=> .inr e),fun _=>hY.ch, ?_⟩
     have S6:=Lib.hid hY
     clear hY hK K S5
     refine wpAnyT_at (E.put 123 (.slice nA NL.length nc) (by decide) rfl) fun b1 E1=> ?_
     clear E
     have E:=E1
     clear E1
     refine wpAnyT_ops (ops':=((opsIn 16 (Try.f81.body.getD .skip)).getD #[])) (l':=#[true,true,true,true,true,true,true,true,true,true,true,true,true,true,true,true,true,true,true,true,true,true,true,true,true,false,false,false,false,false,false,false,false,false]) (by kernel_rfl) (by decide+kernel) ?_
     exact tail _ _ _ _ _ _ _ _ _ _ X6 (E.pick [25,26,27,28,29,30,31,24,23,22,4,2,0] rfl) HRL HWL HNL S6.out
    ·refine heldOpT (i:=23) rfl fun K hK=> ?_
     refine wpList_one_in rfl (.tmp 121) rfl (on:Int) (E.at 8 rfl) ?_
     have Sn:=S3.out.al23 hzb
     obtain⟨k23,hk⟩:∃k,X3.heap.size=k:=⟨_,rfl⟩
     rw[hk] at Sn⊢
     refine at_world (fun Y=>RS B b kv F0 w fs gv rv wv nv (.slice rA RL.length rc) wv nv gl RL wl nl T qw (on:Int) x10 none (some k15) (some k23) Y) Sn fun X7 hY=> ?_
     clear hk Sn
     refine hK.out _ _ ⟨hY.ch.mono (fun _ _ e=> .inr e),fun _=>hY.ch, ?_⟩
     have S7:=Lib.hid hY
     clear hY hK K S3
     refine wpAnyT_at (E.put 122 (.slice (some ⟨k23,0,none⟩) 1 1) (by decide) rfl) fun b1 E1=> ?_
     clear E
     have E:=E1
     clear E1
     refine wpAnyT_all (rs:=[16]) (by decide+kernel) (by simp) fun j hj=> ?_
     simp only[List.mem_cons,List.not_mem_nil,or_false] at hj
     subst hj
     refine heldOpT (i:=16) rfl fun K hK=> ?_
     refine wpList_append_sl _ rfl (.tmp 112) (.tmp 114) 74 rfl waR B 37 _ 24 Try.underlying74 infoWa rfl (by decide) wv wl (E.at 7 rfl) S7.out.sq.wx.wt _ [qw] (E.at 1 rfl) (S7.out.t15 _ rfl).2.1.sl (by simp only[List.length_cons,List.length_nil];omega) (by decide) (by have h1:=S7.out.sq.bB;have h2:=S7.out.sq.sz;omega) (fun w' _ cs y h=>waR_flat _ _ _ _ h) ?_
     intro v1 y1 h1 h2 h3
     obtain⟨WL,hWL⟩:∃L,L=wl++[qw]:=⟨_,rfl⟩
     rw[←hWL] at h1
     have HWL:=Lib.hid hWL
     clear hWL
     obtain⟨wA,wc,rfl,_,_,_⟩:=h1.form
     have Sn:=S7.out.ap16 h1 h2 h3
     clear h1 h2 h3
     refine at_world (fun Y=>RS B b kv F0 w fs gv rv wv nv (.slice rA RL.length rc) (.slice wA WL.length wc) nv gl RL WL nl T qw (on:Int) x10 none none (some k23) Y) Sn fun X8 hY=> ?_
     clear Sn
     refine hK.out _ _ ⟨hY.ch.mono (fun _ _ e=> .inr e),fun _=>hY.ch, ?_⟩
     have S8:=Lib.hid hY
     clear hY hK K S7
     refine wpAnyT_at (E.put 115 (.slice wA WL.length wc) (by decide) rfl) fun b1 E1=> ?_
     clear E
     have E:=E1
     clear E1
     refine wpAnyT_all (rs:=[24]) (by decide+kernel) (by simp) fun j hj=> ?_
     simp only[List.mem_cons,List.not_mem_nil,or_false] at hj
     subst hj
     refine heldOpT (i:=24) rfl fun K hK=> ?_
     refine wpList_append_sl _ rfl (.tmp 119) (.tmp 122) 42 rfl intR B 3 _ 8 Try.underlying42 infoI rfl (by decide) nv nl (E.at 7 rfl) S8.out.sq.wx.n _ [(on:Int)] (E.at 1 rfl) (S8.out.t23 _ rfl).2.1.sl (by simp only[List.length_cons,List.length_nil];omega) (by decide) (by have h1:=S8.out.sq.bB;have h2:=S8.out.sq.sz;omega) (fun w' _ cs y h=>inR_flat _ _ _ _ h) ?_
     intro v1 y1 h1 h2 h3
     obtain⟨NL,hNL⟩:∃L,L=nl++[(on:Int)]:=⟨_,rfl⟩
     rw[←hNL] at h1
     have HNL:=Lib.hid hNL
     clear hNL
     obtain⟨nA,nc,rfl,_,_,_⟩:=h1.form
     have Sn:=S8.out.ap24 h1 h2 h3
     clear h1 h2 h3
     refine at_world (fun Y=>RS B b kv F0 w fs gv rv wv nv (.slice rA RL.length rc) (.slice wA WL.length wc) (.slice nA NL.length nc) gl RL WL NL T qw (on:Int) x10 none none none Y) Sn fun X9 hY=> ?_
     clear Sn
     refine hK.out _ _ ⟨hY.ch.mono (fun _ _ e=> .inr e),fun _=>hY.ch, ?_⟩
     have S9:=Lib.hid hY
     clear hY hK K S8
     refine wpAnyT_at (E.put 123 (.slice nA NL.length nc) (by decide) rfl) fun b1 E1=> ?_
     clear E
     have E:=E1
     clear E1
     refine wpAnyT_ops (ops':=((opsIn 16 (Try.f81.body.getD .skip)).getD #[])) (l':=#[true,true,true,true,true,true,true,true,true,true,true,true,true,true,true,true,true,true,true,true,true,true,true,true,true,false,false,false,false,false,false,false,false,false]) (by kernel_rfl) (by decide+kernel) ?_
     exact tail _ _ _ _ _ _ _ _ _ _ X9 (E.pick [25,26,27,28,29,30,31,24,23,22,4,1,0] rfl) HRL HWL HNL S9.out
   ·refine heldOpT (i:=23) rfl fun K hK=> ?_
    refine wpList_one_in rfl (.tmp 121) rfl (on:Int) (E.at 7 rfl) ?_
    have Sn:=S2.out.al23 hzb
    obtain⟨k23,hk⟩:∃k,X2.heap.size=k:=⟨_,rfl⟩
    rw[hk] at Sn⊢
    refine at_world (fun Y=>RS B b kv F0 w fs gv rv wv nv (.slice rA RL.length rc) wv nv gl RL wl nl T qw (on:Int) x10 none none (some k23) Y) Sn fun X10 hY=> ?_
    clear hk Sn
    refine hK.out _ _ ⟨hY.ch.mono (fun _ _ e=> .inr e),fun _=>hY.ch, ?_⟩
    have S10:=Lib.hid hY
    clear hY hK K S2
    refine wpAnyT_at (E.put 122 (.slice (some ⟨k23,0,none⟩) 1 1) (by decide) rfl) fun b1 E1=> ?_
    clear E
    have E:=E1
    clear E1
    refine wpAnyT_all (rs:=[15]) (by decide+kernel) (by simp) fun j hj=> ?_
    simp only[List.mem_cons,List.not_mem_nil,or_false] at hj
    subst hj
    refine heldOpT (i:=15) rfl fun K hK=> ?_
    refine wpList_one_wa rfl (.tmp 113) rfl qw (E.at 3 rfl) ?_
    have Sn:=S10.out.al15
    obtain⟨k15,hk⟩:∃k,X10.heap.size=k:=⟨_,rfl⟩
    rw[hk] at Sn⊢
    refine at_world (fun Y=>RS B b kv F0 w fs gv rv wv nv (.slice rA RL.length rc) wv nv gl RL wl nl T qw (on:Int) x10 none (some k15) (some k23) Y) Sn fun X11 hY=> ?_
    clear hk Sn
    refine hK.out _ _ ⟨hY.ch.mono (fun _ _ e=> .inr e),fun _=>hY.ch, ?_⟩
    have S11:=Lib.hid hY
    clear hY hK K S10
    refine wpAnyT_at (E.put 114 (.slice (some ⟨k15,0,none⟩) 1 1) (by decide) rfl) fun b1 E1=> ?_
    clear E
    have E:=E1
    clear E1
    refine wpAnyT_all (rs:=[16]) (by decide+kernel) (by simp) fun j hj=> ?_
    simp only[List.mem_cons,List.not_mem_nil,or_false] at hj
    subst hj
    refine heldOpT (i:=16) rfl fun K hK=> ?_
    refine wpList_append_sl _ rfl (.tmp 112) (.tmp 114) 74 rfl waR B 37 _ 24 Try.underlying74 infoWa rfl (by decide) wv wl (E.at 7 rfl) S11.out.sq.wx.wt _ [qw] (E.at 0 rfl) (S11.out.t15 _ rfl).2.1.sl (by simp only[List.length_cons,List.length_nil];omega) (by decide) (by have h1:=S11.out.sq.bB;have h2:=S11.out.sq.sz;omega) (fun w' _ cs y h=>waR_flat _ _ _ _ h) ?_
    intro v1 y1 h1 h2 h3
    obtain⟨WL,hWL⟩:∃L,L=wl++[qw]:=⟨_,rfl⟩
    rw[←hWL] at h1
    have HWL:=Lib.hid hWL
    clear hWL
    obtain⟨wA,wc,rfl,_,_,_⟩:=h1.form
    have Sn:=S11.out.ap16 h1 h2 h3
    clear h1 h2 h3
    refine at_world (fun Y=>RS B b kv F0 w fs gv rv wv nv (.slice rA RL.length rc) (.slice wA WL.length wc) nv gl RL WL nl T qw (on:Int) x10 none none (some k23) Y) Sn fun X12 hY=> ?_
    clear Sn
    refine hK.out _ _ ⟨hY.ch.mono (fun _ _ e=> .inr e),fun _=>hY.ch, ?_⟩
    have S12:=Lib.hid hY
    clear hY hK K S11
    refine wpAnyT_at (E.put 115 (.slice wA WL.length wc) (by decide) rfl) fun b1 E1=> ?_
    clear E
    have E:=E1
    clear E1
    refine wpAnyT_all (rs:=[24]) (by decide+kernel) (by simp) fun j hj=> ?_
    simp only[List.mem_cons,List.not_mem_nil,or_false] at hj
    subst hj
    refine heldOpT (i:=24) rfl fun K hK=> ?_
    refine wpList_append_sl _ rfl (.tmp 119) (.tmp 122) 42 rfl intR B 3 _ 8 Try.underlying42 infoI rfl (by decide) nv nl (E.at 7 rfl) S12.out.sq.wx.n _ [(on:Int)] (E.at 2 rfl) (S12.out.t23 _ rfl).2.1.sl (by simp only[List.length_cons,List.length_nil];omega) (by decide) (by have h1:=S12.out.sq.bB;have h2:=S12.out.sq.sz;omega) (fun w' _ cs y h=>inR_flat _ _ _ _ h) ?_
    intro v1 y1 h1 h2 h3
    obtain⟨NL,hNL⟩:∃L,L=nl++[(on:Int)]:=⟨_,rfl⟩
    rw[←hNL] at h1
    have HNL:=Lib.hid hNL
    clear hNL
    obtain⟨nA,nc,rfl,_,_,_⟩:=h1.form
    have Sn:=S12.out.ap24 h1 h2 h3
    clear h1 h2 h3
    refine at_world (fun Y=>RS B b kv F0 w fs gv rv wv nv (.slice rA RL.length rc) (.slice wA WL.length wc) (.slice nA NL.length nc) gl RL WL NL T qw (on:Int) x10 none none none Y) Sn fun X13 hY=> ?_
    clear Sn
    refine hK.out _ _ ⟨hY.ch.mono (fun _ _ e=> .inr e),fun _=>hY.ch, ?_⟩
    have S13:=Lib.hid hY
    clear hY hK K S12
    refine wpAnyT_at (E.put 123 (.slice nA NL.length nc) (by decide) rfl) fun b1 E1=> ?_
    clear E
    have E:=E1
    clear E1
    refine wpAnyT_ops (ops':=((opsIn 16 (Try.f81.body.getD .skip)).getD #[])) (l':=#[true,true,true,true,true,true,true,true,true,true,true,true,true,true,true,true,true,true,true,true,true,true,true,true,true,false,false,false,false,false,false,false,false,false]) (by kernel_rfl) (by decide+kernel) ?_
    exact tail _ _ _ _ _ _ _ _ _ _ X13 (E.pick [25,26,27,28,29,30,31,24,23,22,4,1,0] rfl) HRL HWL HNL S13.out
  ·refine heldOpT (i:=15) rfl fun K hK=> ?_
   refine wpList_one_wa rfl (.tmp 113) rfl qw (E.at 1 rfl) ?_
   have Sn:=S1.out.al15
   obtain⟨k15,hk⟩:∃k,X1.heap.size=k:=⟨_,rfl⟩
   rw[hk] at Sn⊢
   refine at_world (fun Y=>RS B b kv F0 w fs gv rv wv nv rv wv nv gl rl wl nl T qw (on:Int) x10 (some k8) (some k15) none Y) Sn fun X14 hY=> ?_
   clear hk Sn
   refine hK.out _ _ ⟨hY.ch.mono (fun _ _ e=> .inr e),fun _=>hY.ch, ?_⟩
   have S14:=Lib.hid hY
   clear hY hK K S1
   refine wpAnyT_at (E.put 114 (.slice (some ⟨k15,0,none⟩) 1 1) (by decide) rfl) fun b1 E1=> ?_
   clear E
   have E:=E1
   clear E1
   refine wpAnyT_all (rs:=[9,23]) (by decide+kernel) (by simp) fun j hj=> ?_
   simp only[List.mem_cons,List.not_mem_nil,or_false] at hj
   rcases hj with rfl|rfl
   ·refine heldOpT (i:=9) rfl fun K hK=> ?_
    refine wpList_append_sl _ rfl (.tmp 105) (.tmp 107) 69 rfl tkR B 35 _ 56 Try.underlying69 infoK rfl (by decide) rv rl (E.at 6 rfl) S14.out.sq.wx.r _ [T] (E.at 1 rfl) (S14.out.t8 _ rfl).2.1.sl (by simp only[List.length_cons,List.length_nil];omega) (by decide) (by have h1:=S14.out.sq.bB;have h2:=S14.out.sq.sz;omega) (fun w' _ cs y h=>tkR_flat _ _ _ _ h) ?_
    intro v1 y1 h1 h2 h3
    obtain⟨RL,hRL⟩:∃L,L=rl++[T]:=⟨_,rfl⟩
    rw[←hRL] at h1
    have HRL:=Lib.hid hRL
    clear hRL
    obtain⟨rA,rc,rfl,_,_,_⟩:=h1.form
    have Sn:=S14.out.ap9 h1 h2 h3
    clear h1 h2 h3
    refine at_world (fun Y=>RS B b kv F0 w fs gv rv wv nv (.slice rA RL.length rc) wv nv gl RL wl nl T qw (on:Int) x10 none (some k15) none Y) Sn fun X15 hY=> ?_
    clear Sn
    refine hK.out _ _ ⟨hY.ch.mono (fun _ _ e=> .inr e),fun _=>hY.ch, ?_⟩
    have S15:=Lib.hid hY
    clear hY hK K S14
    refine wpAnyT_at (E.put 108 (.slice rA RL.length rc) (by decide) rfl) fun b1 E1=> ?_
    clear E
    have E:=E1
    clear E1
    refine wpAnyT_all (rs:=[16,23]) (by decide+kernel) (by simp) fun j hj=> ?_
    simp only[List.mem_cons,List.not_mem_nil,or_false] at hj
    rcases hj with rfl|rfl
    ·refine heldOpT (i:=16) rfl fun K hK=> ?_
     refine wpList_append_sl _ rfl (.tmp 112) (.tmp 114) 74 rfl waR B 37 _ 24 Try.underlying74 infoWa rfl (by decide) wv wl (E.at 6 rfl) S15.out.sq.wx.wt _ [qw] (E.at 1 rfl) (S15.out.t15 _ rfl).2.1.sl (by simp only[List.length_cons,List.length_nil];omega) (by decide) (by have h1:=S15.out.sq.bB;have h2:=S15.out.sq.sz;omega) (fun w' _ cs y h=>waR_flat _ _ _ _ h) ?_
     intro v1 y1 h1 h2 h3
     obtain⟨WL,hWL⟩:∃L,L=wl++[qw]:=⟨_,rfl⟩
     rw[←hWL] at h1
     have HWL:=Lib.hid hWL
     clear hWL
     obtain⟨wA,wc,rfl,_,_,_⟩:=h1.form
     have Sn:=S15.out.ap16 h1 h2 h3
     clear h1 h2 h3
     refine at_world (fun Y=>RS B b kv F0 w fs gv rv wv nv (.slice rA RL.length rc) (.slice wA WL.length wc) nv gl RL WL nl T qw (on:Int) x10 none none none Y) Sn fun X16 hY=> ?_
     clear Sn
     refine hK.out _ _ ⟨hY.ch.mono (fun _ _ e=> .inr e),fun _=>hY.ch, ?_⟩
     have S16:=Lib.hid hY
     clear hY hK K S15
     refine wpAnyT_at (E.put 115 (.slice wA WL.length wc) (by decide) rfl) fun b1 E1=> ?_
     clear E
     have E:=E1
     clear E1
     refine wpAnyT_all (rs:=[23]) (by decide+kernel) (by simp) fun j hj=> ?_
     simp only[List.mem_cons,List.not_mem_nil,or_false] at hj
     subst hj
     refine heldOpT (i:=23) rfl fun K hK=> ?_
     refine wpList_one_in rfl (.tmp 121) rfl (on:Int) (E.at 9 rfl) ?_
     have Sn:=S16.out.al23 hzb
     obtain⟨k23,hk⟩:∃k,X16.heap.size=k:=⟨_,rfl⟩
     rw[hk] at Sn⊢
     refine at_world (fun Y=>RS B b kv F0 w fs gv rv wv nv (.slice rA RL.length rc) (.slice wA WL.length wc) nv gl RL WL nl T qw (on:Int) x10 none none (some k23) Y) Sn fun X17 hY=> ?_
     clear hk Sn
     refine hK.out _ _ ⟨hY.ch.mono (fun _ _ e=> .inr e),fun _=>hY.ch, ?_⟩
     have S17:=Lib.hid hY
     clear hY hK K S16
     refine wpAnyT_at (E.put 122 (.slice (some ⟨k23,0,none⟩) 1 1) (by decide) rfl) fun b1 E1=> ?_
     clear E
     have E:=E1
     clear E1
     refine wpAnyT_all (rs:=[24]) (by decide+kernel) (by simp) fun j hj=> ?_
     simp only[List.mem_cons,List.not_mem_nil,or_false] at hj
     subst hj
     refine heldOpT (i:=24) rfl fun K hK=> ?_
     refine wpList_append_sl _ rfl (.tmp 119) (.tmp 122) 42 rfl intR B 3 _ 8 Try.underlying42 infoI rfl (by decide) nv nl (E.at 7 rfl) S17.out.sq.wx.n _ [(on:Int)] (E.at 0 rfl) (S17.out.t23 _ rfl).2.1.sl (by simp only[List.length_cons,List.length_nil];omega) (by decide) (by have h1:=S17.out.sq.bB;have h2:=S17.out.sq.sz;omega) (fun w' _ cs y h=>inR_flat _ _ _ _ h) ?_
     intro v1 y1 h1 h2 h3
     obtain⟨NL,hNL⟩:∃L,L=nl++[(on:Int)]:=⟨_,rfl⟩
     rw[←hNL] at h1
     have HNL:=Lib.hid hNL
     clear hNL
     obtain⟨nA,nc,rfl,_,_,_⟩:=h1.form
     have Sn:=S17.out.ap24 h1 h2 h3
     clear h1 h2 h3
     refine at_world (fun Y=>RS B b kv F0 w fs gv rv wv nv (.slice rA RL.length rc) (.slice wA WL.length wc) (.slice nA NL.length nc) gl RL WL NL T qw (on:Int) x10 none none none Y) Sn fun X18 hY=> ?_
     clear Sn
     refine hK.out _ _ ⟨hY.ch.mono (fun _ _ e=> .inr e),fun _=>hY.ch, ?_⟩
     have S18:=Lib.hid hY
     clear hY hK K S17
     refine wpAnyT_at (E.put 123 (.slice nA NL.length nc) (by decide) rfl) fun b1 E1=> ?_
     clear E
     have E:=E1
     clear E1
     refine wpAnyT_ops (ops':=((opsIn 16 (Try.f81.body.getD .skip)).getD #[])) (l':=#[true,true,true,true,true,true,true,true,true,true,true,true,true,true,true,true,true,true,true,true,true,true,true,true,true,false,false,false,false,false,false,false,false,false]) (by kernel_rfl) (by decide+kernel) ?_
     exact tail _ _ _ _ _ _ _ _ _ _ X18 (E.pick [25,26,27,28,29,30,31,24,23,22,3,2,0] rfl) HRL HWL HNL S18.out
    ·refine heldOpT (i:=23) rfl fun K hK=> ?_
     refine wpList_one_in rfl (.tmp 121) rfl (on:Int) (E.at 8 rfl) ?_
     have Sn:=S15.out.al23 hzb
     obtain⟨k23,hk⟩:∃k,X15.heap.size=k:=⟨_,rfl⟩
     rw[hk] at Sn⊢
     refine at_world (fun Y=>RS B b kv F0 w fs gv rv wv nv (.slice rA RL.length rc) wv nv gl RL wl nl T qw (on:Int) x10 none (some k15) (some k23) Y) Sn fun X19 hY=> ?_
     clear hk Sn
     refine hK.out _ _ ⟨hY.ch.mono (fun _ _ e=> .inr e),fun _=>hY.ch, ?_⟩
     have S19:=Lib.hid hY
     clear hY hK K S15
     refine wpAnyT_at (E.put 122 (.slice (some ⟨k23,0,none⟩) 1 1) (by decide) rfl) fun b1 E1=> ?_
     clear E
     have E:=E1
     clear E1
     refine wpAnyT_all (rs:=[16]) (by decide+kernel) (by simp) fun j hj=> ?_
     simp only[List.mem_cons,List.not_mem_nil,or_false] at hj
     subst hj
     refine heldOpT (i:=16) rfl fun K hK=> ?_
     refine wpList_append_sl _ rfl (.tmp 112) (.tmp 114) 74 rfl waR B 37 _ 24 Try.underlying74 infoWa rfl (by decide) wv wl (E.at 7 rfl) S19.out.sq.wx.wt _ [qw] (E.at 2 rfl) (S19.out.t15 _ rfl).2.1.sl (by simp only[List.length_cons,List.length_nil];omega) (by decide) (by have h1:=S19.out.sq.bB;have h2:=S19.out.sq.sz;omega) (fun w' _ cs y h=>waR_flat _ _ _ _ h) ?_
     intro v1 y1 h1 h2 h3
     obtain⟨WL,hWL⟩:∃L,L=wl++[qw]:=⟨_,rfl⟩
     rw[←hWL] at h1
     have HWL:=Lib.hid hWL
     clear hWL
     obtain⟨wA,wc,rfl,_,_,_⟩:=h1.form
     have Sn:=S19.out.ap16 h1 h2 h3
     clear h1 h2 h3
     refine at_world (fun Y=>RS B b kv F0 w fs gv rv wv nv (.slice rA RL.length rc) (.slice wA WL.length wc) nv gl RL WL nl T qw (on:Int) x10 none none (some k23) Y) Sn fun X20 hY=> ?_
     clear Sn
     refine hK.out _ _ ⟨hY.ch.mono (fun _ _ e=> .inr e),fun _=>hY.ch, ?_⟩
     have S20:=Lib.hid hY
     clear hY hK K S19
     refine wpAnyT_at (E.put 115 (.slice wA WL.length wc) (by decide) rfl) fun b1 E1=> ?_
     clear E
     have E:=E1
     clear E1
     refine wpAnyT_all (rs:=[24]) (by decide+kernel) (by simp) fun j hj=> ?_
     simp only[List.mem_cons,List.not_mem_nil,or_false] at hj
     subst hj
     refine heldOpT (i:=24) rfl fun K hK=> ?_
     refine wpList_append_sl _ rfl (.tmp 119) (.tmp 122) 42 rfl intR B 3 _ 8 Try.underlying42 infoI rfl (by decide) nv nl (E.at 7 rfl) S20.out.sq.wx.n _ [(on:Int)] (E.at 1 rfl) (S20.out.t23 _ rfl).2.1.sl (by simp only[List.length_cons,List.length_nil];omega) (by decide) (by have h1:=S20.out.sq.bB;have h2:=S20.out.sq.sz;omega) (fun w' _ cs y h=>inR_flat _ _ _ _ h) ?_
     intro v1 y1 h1 h2 h3
     obtain⟨NL,hNL⟩:∃L,L=nl++[(on:Int)]:=⟨_,rfl⟩
     rw[←hNL] at h1
     have HNL:=Lib.hid hNL
     clear hNL
     obtain⟨nA,nc,rfl,_,_,_⟩:=h1.form
     have Sn:=S20.out.ap24 h1 h2 h3
     clear h1 h2 h3
     refine at_world (fun Y=>RS B b kv F0 w fs gv rv wv nv (.slice rA RL.length rc) (.slice wA WL.length wc) (.slice nA NL.length nc) gl RL WL NL T qw (on:Int) x10 none none none Y) Sn fun X21 hY=> ?_
     clear Sn
     refine hK.out _ _ ⟨hY.ch.mono (fun _ _ e=> .inr e),fun _=>hY.ch, ?_⟩
     have S21:=Lib.hid hY
     clear hY hK K S20
     refine wpAnyT_at (E.put 123 (.slice nA NL.length nc) (by decide) rfl) fun b1 E1=> ?_
     clear E
     have E:=E1
     clear E1
     refine wpAnyT_ops (ops':=((opsIn 16 (Try.f81.body.getD .skip)).getD #[])) (l':=#[true,true,true,true,true,true,true,true,true,true,true,true,true,true,true,true,true,true,true,true,true,true,true,true,true,false,false,false,false,false,false,false,false,false]) (by kernel_rfl) (by decide+kernel) ?_
     exact tail _ _ _ _ _ _ _ _ _ _ X21 (E.pick [25,26,27,28,29,30,31,24,23,22,3,1,0] rfl) HRL HWL HNL S21.out
   ·refine heldOpT (i:=23) rfl fun K hK=> ?_
    refine wpList_one_in rfl (.tmp 121) rfl (on:Int) (E.at 7 rfl) ?_
    have Sn:=S14.out.al23 hzb
    obtain⟨k23,hk⟩:∃k,X14.heap.size=k:=⟨_,rfl⟩
    rw[hk] at Sn⊢
    refine at_world (fun Y=>RS B b kv F0 w fs gv rv wv nv rv wv nv gl rl wl nl T qw (on:Int) x10 (some k8) (some k15) (some k23) Y) Sn fun X22 hY=> ?_
    clear hk Sn
    refine hK.out _ _ ⟨hY.ch.mono (fun _ _ e=> .inr e),fun _=>hY.ch, ?_⟩
    have S22:=Lib.hid hY
    clear hY hK K S14
    refine wpAnyT_at (E.put 122 (.slice (some ⟨k23,0,none⟩) 1 1) (by decide) rfl) fun b1 E1=> ?_
    clear E
    have E:=E1
    clear E1
    refine wpAnyT_all (rs:=[9]) (by decide+kernel) (by simp) fun j hj=> ?_
    simp only[List.mem_cons,List.not_mem_nil,or_false] at hj
    subst hj
    refine heldOpT (i:=9) rfl fun K hK=> ?_
    refine wpList_append_sl _ rfl (.tmp 105) (.tmp 107) 69 rfl tkR B 35 _ 56 Try.underlying69 infoK rfl (by decide) rv rl (E.at 7 rfl) S22.out.sq.wx.r _ [T] (E.at 2 rfl) (S22.out.t8 _ rfl).2.1.sl (by simp only[List.length_cons,List.length_nil];omega) (by decide) (by have h1:=S22.out.sq.bB;have h2:=S22.out.sq.sz;omega) (fun w' _ cs y h=>tkR_flat _ _ _ _ h) ?_
    intro v1 y1 h1 h2 h3
    obtain⟨RL,hRL⟩:∃L,L=rl++[T]:=⟨_,rfl⟩
    rw[←hRL] at h1
    have HRL:=Lib.hid hRL
    clear hRL
    obtain⟨rA,rc,rfl,_,_,_⟩:=h1.form
    have Sn:=S22.out.ap9 h1 h2 h3
    clear h1 h2 h3
    refine at_world (fun Y=>RS B b kv F0 w fs gv rv wv nv (.slice rA RL.length rc) wv nv gl RL wl nl T qw (on:Int) x10 none (some k15) (some k23) Y) Sn fun X23 hY=> ?_
    clear Sn
    refine hK.out _ _ ⟨hY.ch.mono (fun _ _ e=> .inr e),fun _=>hY.ch, ?_⟩
    have S23:=Lib.hid hY
    clear hY hK K S22
    refine wpAnyT_at (E.put 108 (.slice rA RL.length rc) (by decide) rfl) fun b1 E1=> ?_
    clear E
    have E:=E1
    clear E1
    refine wpAnyT_all (rs:=[16]) (by decide+kernel) (by simp) fun j hj=> ?_
    simp only[List.mem_cons,List.not_mem_nil,or_false] at hj
    subst hj
    refine heldOpT (i:=16) rfl fun K hK=> ?_
    refine wpList_append_sl _ rfl (.tmp 112) (.tmp 114) 74 rfl waR B 37 _ 24 Try.underlying74 infoWa rfl (by decide) wv wl (E.at 7 rfl) S23.out.sq.wx.wt _ [qw] (E.at 2 rfl) (S23.out.t15 _ rfl).2.1.sl (by simp only[List.length_cons,List.length_nil];omega) (by decide) (by have h1:=S23.out.sq.bB;have h2:=S23.out.sq.sz;omega) (fun w' _ cs y h=>waR_flat _ _ _ _ h) ?_
    intro v1 y1 h1 h2 h3
    obtain⟨WL,hWL⟩:∃L,L=wl++[qw]:=⟨_,rfl⟩
    rw[←hWL] at h1
    have HWL:=Lib.hid hWL
    clear hWL
    obtain⟨wA,wc,rfl,_,_,_⟩:=h1.form
    have Sn:=S23.out.ap16 h1 h2 h3
    clear h1 h2 h3
    refine at_world (fun Y=>RS B b kv F0 w fs gv rv wv nv (.slice rA RL.length rc) (.slice wA WL.length wc) nv gl RL WL nl T qw (on:Int) x10 none none (some k23) Y) Sn fun X24 hY=> ?_
    clear Sn
    refine hK.out _ _ ⟨hY.ch.mono (fun _ _ e=> .inr e),fun _=>hY.ch, ?_⟩
    have S24:=Lib.hid hY
    clear hY hK K S23
    refine wpAnyT_at (E.put 115 (.slice wA WL.length wc) (by decide) rfl) fun b1 E1=> ?_
    clear E
    have E:=E1
    clear E1
    refine wpAnyT_all (rs:=[24]) (by decide+kernel) (by simp) fun j hj=> ?_
    simp only[List.mem_cons,List.not_mem_nil,or_false] at hj
    subst hj
    refine heldOpT (i:=24) rfl fun K hK=> ?_
    refine wpList_append_sl _ rfl (.tmp 119) (.tmp 122) 42 rfl intR B 3 _ 8 Try.underlying42 infoI rfl (by decide) nv nl (E.at 7 rfl) S24.out.sq.wx.n _ [(on:Int)] (E.at 2 rfl) (S24.out.t23 _ rfl).2.1.sl (by simp only[List.length_cons,List.length_nil];omega) (by decide) (by have h1:=S24.out.sq.bB;have h2:=S24.out.sq.sz;omega) (fun w' _ cs y h=>inR_flat _ _ _ _ h) ?_
    intro v1 y1 h1 h2 h3
    obtain⟨NL,hNL⟩:∃L,L=nl++[(on:Int)]:=⟨_,rfl⟩
    rw[←hNL] at h1
    have HNL:=Lib.hid hNL
    clear hNL
    obtain⟨nA,nc,rfl,_,_,_⟩:=h1.form
    have Sn:=S24.out.ap24 h1 h2 h3
    clear h1 h2 h3
    refine at_world (fun Y=>RS B b kv F0 w fs gv rv wv nv (.slice rA RL.length rc) (.slice wA WL.length wc) (.slice nA NL.length nc) gl RL WL NL T qw (on:Int) x10 none none none Y) Sn fun X25 hY=> ?_
    clear Sn
    refine hK.out _ _ ⟨hY.ch.mono (fun _ _ e=> .inr e),fun _=>hY.ch, ?_⟩
    have S25:=Lib.hid hY
    clear hY hK K S24
    refine wpAnyT_at (E.put 123 (.slice nA NL.length nc) (by decide) rfl) fun b1 E1=> ?_
    clear E
    have E:=E1
    clear E1
    refine wpAnyT_ops (ops':=((opsIn 16 (Try.f81.body.getD .skip)).getD #[])) (l':=#[true,true,true,true,true,true,true,true,true,true,true,true,true,true,true,true,true,true,true,true,true,true,true,true,true,false,false,false,false,false,false,false,false,false]) (by kernel_rfl) (by decide+kernel) ?_
    exact tail _ _ _ _ _ _ _ _ _ _ X25 (E.pick [25,26,27,28,29,30,31,24,23,22,2,1,0] rfl) HRL HWL HNL S25.out
  ·refine heldOpT (i:=23) rfl fun K hK=> ?_
   refine wpList_one_in rfl (.tmp 121) rfl (on:Int) (E.at 6 rfl) ?_
   have Sn:=S1.out.al23 hzb
   obtain⟨k23,hk⟩:∃k,X1.heap.size=k:=⟨_,rfl⟩
   rw[hk] at Sn⊢
   refine at_world (fun Y=>RS B b kv F0 w fs gv rv wv nv rv wv nv gl rl wl nl T qw (on:Int) x10 (some k8) none (some k23) Y) Sn fun X26 hY=> ?_
   clear hk Sn
   refine hK.out _ _ ⟨hY.ch.mono (fun _ _ e=> .inr e),fun _=>hY.ch, ?_⟩
   have S26:=Lib.hid hY
   clear hY hK K S1
   refine wpAnyT_at (E.put 122 (.slice (some ⟨k23,0,none⟩) 1 1) (by decide) rfl) fun b1 E1=> ?_
   clear E
   have E:=E1
   clear E1
   refine wpAnyT_all (rs:=[9,15]) (by decide+kernel) (by simp) fun j hj=> ?_
   simp only[List.mem_cons,List.not_mem_nil,or_false] at hj
   rcases hj with rfl|rfl
   ·refine heldOpT (i:=9) rfl fun K hK=> ?_
    refine wpList_append_sl _ rfl (.tmp 105) (.tmp 107) 69 rfl tkR B 35 _ 56 Try.underlying69 infoK rfl (by decide) rv rl (E.at 6 rfl) S26.out.sq.wx.r _ [T] (E.at 1 rfl) (S26.out.t8 _ rfl).2.1.sl (by simp only[List.length_cons,List.length_nil];omega) (by decide) (by have h1:=S26.out.sq.bB;have h2:=S26.out.sq.sz;omega) (fun w' _ cs y h=>tkR_flat _ _ _ _ h) ?_
    intro v1 y1 h1 h2 h3
    obtain⟨RL,hRL⟩:∃L,L=rl++[T]:=⟨_,rfl⟩
    rw[←hRL] at h1
    have HRL:=Lib.hid hRL
    clear hRL
    obtain⟨rA,rc,rfl,_,_,_⟩:=h1.form
    have Sn:=S26.out.ap9 h1 h2 h3
    clear h1 h2 h3
    refine at_world (fun Y=>RS B b kv F0 w fs gv rv wv nv (.slice rA RL.length rc) wv nv gl RL wl nl T qw (on:Int) x10 none none (some k23) Y) Sn fun X27 hY=> ?_
    clear Sn
    refine hK.out _ _ ⟨hY.ch.mono (fun _ _ e=> .inr e),fun _=>hY.ch, ?_⟩
    have S27:=Lib.hid hY
    clear hY hK K S26
    refine wpAnyT_at (E.put 108 (.slice rA RL.length rc) (by decide) rfl) fun b1 E1=> ?_
    clear E
    have E:=E1
    clear E1
    refine wpAnyT_all (rs:=[15]) (by decide+kernel) (by simp) fun j hj=> ?_
    simp only[List.mem_cons,List.not_mem_nil,or_false] at hj
    subst hj
    refine heldOpT (i:=15) rfl fun K hK=> ?_
    refine wpList_one_wa rfl (.tmp 113) rfl qw (E.at 3 rfl) ?_
    have Sn:=S27.out.al15
    obtain⟨k15,hk⟩:∃k,X27.heap.size=k:=⟨_,rfl⟩
    rw[hk] at Sn⊢
    refine at_world (fun Y=>RS B b kv F0 w fs gv rv wv nv (.slice rA RL.length rc) wv nv gl RL wl nl T qw (on:Int) x10 none (some k15) (some k23) Y) Sn fun X28 hY=> ?_
    clear hk Sn
    refine hK.out _ _ ⟨hY.ch.mono (fun _ _ e=> .inr e),fun _=>hY.ch, ?_⟩
    have S28:=Lib.hid hY
    clear hY hK K S27
    refine wpAnyT_at (E.put 114 (.slice (some ⟨k15,0,none⟩) 1 1) (by decide) rfl) fun b1 E1=> ?_
    clear E
    have E:=E1
    clear E1
    refine wpAnyT_all (rs:=[16]) (by decide+kernel) (by simp) fun j hj=> ?_
    simp only[List.mem_cons,List.not_mem_nil,or_false] at hj
    subst hj
    refine heldOpT (i:=16) rfl fun K hK=> ?_
    refine wpList_append_sl _ rfl (.tmp 112) (.tmp 114) 74 rfl waR B 37 _ 24 Try.underlying74 infoWa rfl (by decide) wv wl (E.at 7 rfl) S28.out.sq.wx.wt _ [qw] (E.at 0 rfl) (S28.out.t15 _ rfl).2.1.sl (by simp only[List.length_cons,List.length_nil];omega) (by decide) (by have h1:=S28.out.sq.bB;have h2:=S28.out.sq.sz;omega) (fun w' _ cs y h=>waR_flat _ _ _ _ h) ?_
    intro v1 y1 h1 h2 h3
    obtain⟨WL,hWL⟩:∃L,L=wl++[qw]:=⟨_,rfl⟩
    rw[←hWL] at h1
    have HWL:=Lib.hid hWL
    clear hWL
    obtain⟨wA,wc,rfl,_,_,_⟩:=h1.form
    have Sn:=S28.out.ap16 h1 h2 h3
    clear h1 h2 h3
    refine at_world (fun Y=>RS B b kv F0 w fs gv rv wv nv (.slice rA RL.length rc) (.slice wA WL.length wc) nv gl RL WL nl T qw (on:Int) x10 none none (some k23) Y) Sn fun X29 hY=> ?_
    clear Sn
    refine hK.out _ _ ⟨hY.ch.mono (fun _ _ e=> .inr e),fun _=>hY.ch, ?_⟩
    have S29:=Lib.hid hY
    clear hY hK K S28
    refine wpAnyT_at (E.put 115 (.slice wA WL.length wc) (by decide) rfl) fun b1 E1=> ?_
    clear E
    have E:=E1
    clear E1
    refine wpAnyT_all (rs:=[24]) (by decide+kernel) (by simp) fun j hj=> ?_
    simp only[List.mem_cons,List.not_mem_nil,or_false] at hj
    subst hj
    refine heldOpT (i:=24) rfl fun K hK=> ?_
    refine wpList_append_sl _ rfl (.tmp 119) (.tmp 122) 42 rfl intR B 3 _ 8 Try.underlying42 infoI rfl (by decide) nv nl (E.at 7 rfl) S29.out.sq.wx.n _ [(on:Int)] (E.at 3 rfl) (S29.out.t23 _ rfl).2.1.sl (by simp only[List.length_cons,List.length_nil];omega) (by decide) (by have h1:=S29.out.sq.bB;have h2:=S29.out.sq.sz;omega) (fun w' _ cs y h=>inR_flat _ _ _ _ h) ?_
    intro v1 y1 h1 h2 h3
    obtain⟨NL,hNL⟩:∃L,L=nl++[(on:Int)]:=⟨_,rfl⟩
    rw[←hNL] at h1
    have HNL:=Lib.hid hNL
    clear hNL
    obtain⟨nA,nc,rfl,_,_,_⟩:=h1.form
    have Sn:=S29.out.ap24 h1 h2 h3
    clear h1 h2 h3
    refine at_world (fun Y=>RS B b kv F0 w fs gv rv wv nv (.slice rA RL.length rc) (.slice wA WL.length wc) (.slice nA NL.length nc) gl RL WL NL T qw (on:Int) x10 none none none Y) Sn fun X30 hY=> ?_
    clear Sn
    refine hK.out _ _ ⟨hY.ch.mono (fun _ _ e=> .inr e),fun _=>hY.ch, ?_⟩
    have S30:=Lib.hid hY
    clear hY hK K S29
    refine wpAnyT_at (E.put 123 (.slice nA NL.length nc) (by decide) rfl) fun b1 E1=> ?_
    clear E
    have E:=E1
    clear E1
    refine wpAnyT_ops (ops':=((opsIn 16 (Try.f81.body.getD .skip)).getD #[])) (l':=#[true,true,true,true,true,true,true,true,true,true,true,true,true,true,true,true,true,true,true,true,true,true,true,true,true,false,false,false,false,false,false,false,false,false]) (by kernel_rfl) (by decide+kernel) ?_
    exact tail _ _ _ _ _ _ _ _ _ _ X30 (E.pick [25,26,27,28,29,30,31,24,23,22,3,1,0] rfl) HRL HWL HNL S30.out
   ·refine heldOpT (i:=15) rfl fun K hK=> ?_
    refine wpList_one_wa rfl (.tmp 113) rfl qw (E.at 2 rfl) ?_
    have Sn:=S26.out.al15
    obtain⟨k15,hk⟩:∃k,X26.heap.size=k:=⟨_,rfl⟩
    rw[hk] at Sn⊢
    refine at_world (fun Y=>RS B b kv F0 w fs gv rv wv nv rv wv nv gl rl wl nl T qw (on:Int) x10 (some k8) (some k15) (some k23) Y) Sn fun X31 hY=> ?_
    clear hk Sn
    refine hK.out _ _ ⟨hY.ch.mono (fun _ _ e=> .inr e),fun _=>hY.ch, ?_⟩
    have S31:=Lib.hid hY
    clear hY hK K S26
    refine wpAnyT_at (E.put 114 (.slice (some ⟨k15,0,none⟩) 1 1) (by decide) rfl) fun b1 E1=> ?_
    clear E
    have E:=E1
    clear E1
    refine wpAnyT_all (rs:=[9]) (by decide+kernel) (by simp) fun j hj=> ?_
    simp only[List.mem_cons,List.not_mem_nil,or_false] at hj
    subst hj
    refine heldOpT (i:=9) rfl fun K hK=> ?_
    refine wpList_append_sl _ rfl (.tmp 105) (.tmp 107) 69 rfl tkR B 35 _ 56 Try.underlying69 infoK rfl (by decide) rv rl (E.at 7 rfl) S31.out.sq.wx.r _ [T] (E.at 2 rfl) (S31.out.t8 _ rfl).2.1.sl (by simp only[List.length_cons,List.length_nil];omega) (by decide) (by have h1:=S31.out.sq.bB;have h2:=S31.out.sq.sz;omega) (fun w' _ cs y h=>tkR_flat _ _ _ _ h) ?_
    intro v1 y1 h1 h2 h3
    obtain⟨RL,hRL⟩:∃L,L=rl++[T]:=⟨_,rfl⟩
    rw[←hRL] at h1
    have HRL:=Lib.hid hRL
    clear hRL
    obtain⟨rA,rc,rfl,_,_,_⟩:=h1.form
    have Sn:=S31.out.ap9 h1 h2 h3
    clear h1 h2 h3
    refine at_world (fun Y=>RS B b kv F0 w fs gv rv wv nv (.slice rA RL.length rc) wv nv gl RL wl nl T qw (on:Int) x10 none (some k15) (some k23) Y) Sn fun X32 hY=> ?_
    clear Sn
    refine hK.out _ _ ⟨hY.ch.mono (fun _ _ e=> .inr e),fun _=>hY.ch, ?_⟩
    have S32:=Lib.hid hY
    clear hY hK K S31
    refine wpAnyT_at (E.put 108 (.slice rA RL.length rc) (by decide) rfl) fun b1 E1=> ?_
    clear E
    have E:=E1
    clear E1
    refine wpAnyT_all (rs:=[16]) (by decide+kernel) (by simp) fun j hj=> ?_
    simp only[List.mem_cons,List.not_mem_nil,or_false] at hj
    subst hj
    refine heldOpT (i:=16) rfl fun K hK=> ?_
    refine wpList_append_sl _ rfl (.tmp 112) (.tmp 114) 74 rfl waR B 37 _ 24 Try.underlying74 infoWa rfl (by decide) wv wl (E.at 7 rfl) S32.out.sq.wx.wt _ [qw] (E.at 1 rfl) (S32.out.t15 _ rfl).2.1.sl (by simp only[List.length_cons,List.length_nil];omega) (by decide) (by have h1:=S32.out.sq.bB;have h2:=S32.out.sq.sz;omega) (fun w' _ cs y h=>waR_flat _ _ _ _ h) ?_
    intro v1 y1 h1 h2 h3
    obtain⟨WL,hWL⟩:∃L,L=wl++[qw]:=⟨_,rfl⟩
    rw[←hWL] at h1
    have HWL:=Lib.hid hWL
    clear hWL
    obtain⟨wA,wc,rfl,_,_,_⟩:=h1.form
    have Sn:=S32.out.ap16 h1 h2 h3
    clear h1 h2 h3
    refine at_world (fun Y=>RS B b kv F0 w fs gv rv wv nv (.slice rA RL.length rc) (.slice wA WL.length wc) nv gl RL WL nl T qw (on:Int) x10 none none (some k23) Y) Sn fun X33 hY=> ?_
    clear Sn
    refine hK.out _ _ ⟨hY.ch.mono (fun _ _ e=> .inr e),fun _=>hY.ch, ?_⟩
    have S33:=Lib.hid hY
    clear hY hK K S32
    refine wpAnyT_at (E.put 115 (.slice wA WL.length wc) (by decide) rfl) fun b1 E1=> ?_
    clear E
    have E:=E1
    clear E1
    refine wpAnyT_all (rs:=[24]) (by decide+kernel) (by simp) fun j hj=> ?_
    simp only[List.mem_cons,List.not_mem_nil,or_false] at hj
    subst hj
    refine heldOpT (i:=24) rfl fun K hK=> ?_
    refine wpList_append_sl _ rfl (.tmp 119) (.tmp 122) 42 rfl intR B 3 _ 8 Try.underlying42 infoI rfl (by decide) nv nl (E.at 7 rfl) S33.out.sq.wx.n _ [(on:Int)] (E.at 3 rfl) (S33.out.t23 _ rfl).2.1.sl (by simp only[List.length_cons,List.length_nil];omega) (by decide) (by have h1:=S33.out.sq.bB;have h2:=S33.out.sq.sz;omega) (fun w' _ cs y h=>inR_flat _ _ _ _ h) ?_
    intro v1 y1 h1 h2 h3
    obtain⟨NL,hNL⟩:∃L,L=nl++[(on:Int)]:=⟨_,rfl⟩
    rw[←hNL] at h1
    have HNL:=Lib.hid hNL
    clear hNL
    obtain⟨nA,nc,rfl,_,_,_⟩:=h1.form
    have Sn:=S33.out.ap24 h1 h2 h3
    clear h1 h2 h3
    refine at_world (fun Y=>RS B b kv F0 w fs gv rv wv nv (.slice rA RL.length rc) (.slice wA WL.length wc) (.slice nA NL.length nc) gl RL WL NL T qw (on:Int) x10 none none none Y) Sn fun X34 hY=> ?_
    clear Sn
    refine hK.out _ _ ⟨hY.ch.mono (fun _ _ e=> .inr e),fun _=>hY.ch, ?_⟩
    have S34:=Lib.hid hY
    clear hY hK K S33
    refine wpAnyT_at (E.put 123 (.slice nA NL.length nc) (by decide) rfl) fun b1 E1=> ?_
    clear E
    have E:=E1
    clear E1
    refine wpAnyT_ops (ops':=((opsIn 16 (Try.f81.body.getD .skip)).getD #[])) (l':=#[true,true,true,true,true,true,true,true,true,true,true,true,true,true,true,true,true,true,true,true,true,true,true,true,true,false,false,false,false,false,false,false,false,false]) (by kernel_rfl) (by decide+kernel) ?_
    exact tail _ _ _ _ _ _ _ _ _ _ X34 (E.pick [25,26,27,28,29,30,31,24,23,22,2,1,0] rfl) HRL HWL HNL S34.out
 ·refine heldOpT (i:=15) rfl fun K hK=> ?_
  refine wpList_one_wa rfl (.tmp 113) rfl qw (E.at 0 rfl) ?_
  have Sn:=S0.out.al15
  obtain⟨k15,hk⟩:∃k,X0.heap.size=k:=⟨_,rfl⟩
  rw[hk] at Sn⊢
  refine at_world (fun Y=>RS B b kv F0 w fs gv rv wv nv rv wv nv gl rl wl nl T qw (on:Int) x10 none (some k15) none Y) Sn fun X35 hY=> ?_
  clear hk Sn
  refine hK.out _ _ ⟨hY.ch.mono (fun _ _ e=> .inr e),fun _=>hY.ch, ?_⟩
  have S35:=Lib.hid hY
  clear hY hK K S0
  refine wpAnyT_at (E.put 114 (.slice (some ⟨k15,0,none⟩) 1 1) (by decide) rfl) fun b1 E1=> ?_
  clear E
  have E:=E1
  clear E1
  refine wpAnyT_all (rs:=[8,23]) (by decide+kernel) (by simp) fun j hj=> ?_
  simp only[List.mem_cons,List.not_mem_nil,or_false] at hj
  rcases hj with rfl|rfl
  ·refine heldOpT (i:=8) rfl fun K hK=> ?_
   refine wpList_one_tk rfl (.tmp 106) rfl T (E.at 2 rfl) ?_
   have Sn:=S35.out.al8
   obtain⟨k8,hk⟩:∃k,X35.heap.size=k:=⟨_,rfl⟩
   rw[hk] at Sn⊢
   refine at_world (fun Y=>RS B b kv F0 w fs gv rv wv nv rv wv nv gl rl wl nl T qw (on:Int) x10 (some k8) (some k15) none Y) Sn fun X36 hY=> ?_
   clear hk Sn
   refine hK.out _ _ ⟨hY.ch.mono (fun _ _ e=> .inr e),fun _=>hY.ch, ?_⟩
   have S36:=Lib.hid hY
   clear hY hK K S35
   refine wpAnyT_at (E.put 107 (.slice (some ⟨k8,0,none⟩) 1 1) (by decide) rfl) fun b1 E1=> ?_
   clear E
   have E:=E1
   clear E1
   refine wpAnyT_all (rs:=[9,23]) (by decide+kernel) (by simp) fun j hj=> ?_
   simp only[List.mem_cons,List.not_mem_nil,or_false] at hj
   rcases hj with rfl|rfl
   ·refine heldOpT (i:=9) rfl fun K hK=> ?_
    refine wpList_append_sl _ rfl (.tmp 105) (.tmp 107) 69 rfl tkR B 35 _ 56 Try.underlying69 infoK rfl (by decide) rv rl (E.at 6 rfl) S36.out.sq.wx.r _ [T] (E.at 0 rfl) (S36.out.t8 _ rfl).2.1.sl (by simp only[List.length_cons,List.length_nil];omega) (by decide) (by have h1:=S36.out.sq.bB;have h2:=S36.out.sq.sz;omega) (fun w' _ cs y h=>tkR_flat _ _ _ _ h) ?_
    intro v1 y1 h1 h2 h3
    obtain⟨RL,hRL⟩:∃L,L=rl++[T]:=⟨_,rfl⟩
    rw[←hRL] at h1
    have HRL:=Lib.hid hRL
    clear hRL
    obtain⟨rA,rc,rfl,_,_,_⟩:=h1.form
    have Sn:=S36.out.ap9 h1 h2 h3
    clear h1 h2 h3
    refine at_world (fun Y=>RS B b kv F0 w fs gv rv wv nv (.slice rA RL.length rc) wv nv gl RL wl nl T qw (on:Int) x10 none (some k15) none Y) Sn fun X37 hY=> ?_
    clear Sn
    refine hK.out _ _ ⟨hY.ch.mono (fun _ _ e=> .inr e),fun _=>hY.ch, ?_⟩
    have S37:=Lib.hid hY
    clear hY hK K S36
    refine wpAnyT_at (E.put 108 (.slice rA RL.length rc) (by decide) rfl) fun b1 E1=> ?_
    clear E
    have E:=E1
    clear E1
    refine wpAnyT_all (rs:=[16,23]) (by decide+kernel) (by simp) fun j hj=> ?_
    simp only[List.mem_cons,List.not_mem_nil,or_false] at hj
    rcases hj with rfl|rfl
    ·refine heldOpT (i:=16) rfl fun K hK=> ?_
     refine wpList_append_sl _ rfl (.tmp 112) (.tmp 114) 74 rfl waR B 37 _ 24 Try.underlying74 infoWa rfl (by decide) wv wl (E.at 6 rfl) S37.out.sq.wx.wt _ [qw] (E.at 2 rfl) (S37.out.t15 _ rfl).2.1.sl (by simp only[List.length_cons,List.length_nil];omega) (by decide) (by have h1:=S37.out.sq.bB;have h2:=S37.out.sq.sz;omega) (fun w' _ cs y h=>waR_flat _ _ _ _ h) ?_
     intro v1 y1 h1 h2 h3
     obtain⟨WL,hWL⟩:∃L,L=wl++[qw]:=⟨_,rfl⟩
     rw[←hWL] at h1
     have HWL:=Lib.hid hWL
     clear hWL
     obtain⟨wA,wc,rfl,_,_,_⟩:=h1.form
     have Sn:=S37.out.ap16 h1 h2 h3
     clear h1 h2 h3
     refine at_world (fun Y=>RS B b kv F0 w fs gv rv wv nv (.slice rA RL.length rc) (.slice wA WL.length wc) nv gl RL WL nl T qw (on:Int) x10 none none none Y) Sn fun X38 hY=> ?_
     clear Sn
     refine hK.out _ _ ⟨hY.ch.mono (fun _ _ e=> .inr e),fun _=>hY.ch, ?_⟩
     have S38:=Lib.hid hY
     clear hY hK K S37
     refine wpAnyT_at (E.put 115 (.slice wA WL.length wc) (by decide) rfl) fun b1 E1=> ?_
     clear E
     have E:=E1
     clear E1
     refine wpAnyT_all (rs:=[23]) (by decide+kernel) (by simp) fun j hj=> ?_
     simp only[List.mem_cons,List.not_mem_nil,or_false] at hj
     subst hj
     refine heldOpT (i:=23) rfl fun K hK=> ?_
     refine wpList_one_in rfl (.tmp 121) rfl (on:Int) (E.at 9 rfl) ?_
     have Sn:=S38.out.al23 hzb
     obtain⟨k23,hk⟩:∃k,X38.heap.size=k:=⟨_,rfl⟩
     rw[hk] at Sn⊢
     refine at_world (fun Y=>RS B b kv F0 w fs gv rv wv nv (.slice rA RL.length rc) (.slice wA WL.length wc) nv gl RL WL nl T qw (on:Int) x10 none none (some k23) Y) Sn fun X39 hY=> ?_
     clear hk Sn
     refine hK.out _ _ ⟨hY.ch.mono (fun _ _ e=> .inr e),fun _=>hY.ch, ?_⟩
     have S39:=Lib.hid hY
     clear hY hK K S38
     refine wpAnyT_at (E.put 122 (.slice (some ⟨k23,0,none⟩) 1 1) (by decide) rfl) fun b1 E1=> ?_
     clear E
     have E:=E1
     clear E1
     refine wpAnyT_all (rs:=[24]) (by decide+kernel) (by simp) fun j hj=> ?_
     simp only[List.mem_cons,List.not_mem_nil,or_false] at hj
     subst hj
     refine heldOpT (i:=24) rfl fun K hK=> ?_
     refine wpList_append_sl _ rfl (.tmp 119) (.tmp 122) 42 rfl intR B 3 _ 8 Try.underlying42 infoI rfl (by decide) nv nl (E.at 7 rfl) S39.out.sq.wx.n _ [(on:Int)] (E.at 0 rfl) (S39.out.t23 _ rfl).2.1.sl (by simp only[List.length_cons,List.length_nil];omega) (by decide) (by have h1:=S39.out.sq.bB;have h2:=S39.out.sq.sz;omega) (fun w' _ cs y h=>inR_flat _ _ _ _ h) ?_
     intro v1 y1 h1 h2 h3
     obtain⟨NL,hNL⟩:∃L,L=nl++[(on:Int)]:=⟨_,rfl⟩
     rw[←hNL] at h1
     have HNL:=Lib.hid hNL
     clear hNL
     obtain⟨nA,nc,rfl,_,_,_⟩:=h1.form
     have Sn:=S39.out.ap24 h1 h2 h3
     clear h1 h2 h3
     refine at_world (fun Y=>RS B b kv F0 w fs gv rv wv nv (.slice rA RL.length rc) (.slice wA WL.length wc) (.slice nA NL.length nc) gl RL WL NL T qw (on:Int) x10 none none none Y) Sn fun X40 hY=> ?_
     clear Sn
     refine hK.out _ _ ⟨hY.ch.mono (fun _ _ e=> .inr e),fun _=>hY.ch, ?_⟩
     have S40:=Lib.hid hY
     clear hY hK K S39
     refine wpAnyT_at (E.put 123 (.slice nA NL.length nc) (by decide) rfl) fun b1 E1=> ?_
     clear E
     have E:=E1
     clear E1
     refine wpAnyT_ops (ops':=((opsIn 16 (Try.f81.body.getD .skip)).getD #[])) (l':=#[true,true,true,true,true,true,true,true,true,true,true,true,true,true,true,true,true,true,true,true,true,true,true,true,true,false,false,false,false,false,false,false,false,false]) (by kernel_rfl) (by decide+kernel) ?_
     exact tail _ _ _ _ _ _ _ _ _ _ X40 (E.pick [25,26,27,28,29,30,31,24,23,22,3,2,0] rfl) HRL HWL HNL S40.out
    ·refine heldOpT (i:=23) rfl fun K hK=> ?_
     refine wpList_one_in rfl (.tmp 121) rfl (on:Int) (E.at 8 rfl) ?_
     have Sn:=S37.out.al23 hzb
     obtain⟨k23,hk⟩:∃k,X37.heap.size=k:=⟨_,rfl⟩
     rw[hk] at Sn⊢
     refine at_world (fun Y=>RS B b kv F0 w fs gv rv wv nv (.slice rA RL.length rc) wv nv gl RL wl nl T qw (on:Int) x10 none (some k15) (some k23) Y) Sn fun X41 hY=> ?_
     clear hk Sn
     refine hK.out _ _ ⟨hY.ch.mono (fun _ _ e=> .inr e),fun _=>hY.ch, ?_⟩
     have S41:=Lib.hid hY
     clear hY hK K S37
     refine wpAnyT_at (E.put 122 (.slice (some ⟨k23,0,none⟩) 1 1) (by decide) rfl) fun b1 E1=> ?_
     clear E
     have E:=E1
     clear E1
     refine wpAnyT_all (rs:=[16]) (by decide+kernel) (by simp) fun j hj=> ?_
     simp only[List.mem_cons,List.not_mem_nil,or_false] at hj
     subst hj
     refine heldOpT (i:=16) rfl fun K hK=> ?_
     refine wpList_append_sl _ rfl (.tmp 112) (.tmp 114) 74 rfl waR B 37 _ 24 Try.underlying74 infoWa rfl (by decide) wv wl (E.at 7 rfl) S41.out.sq.wx.wt _ [qw] (E.at 3 rfl) (S41.out.t15 _ rfl).2.1.sl (by simp only[List.length_cons,List.length_nil];omega) (by decide) (by have h1:=S41.out.sq.bB;have h2:=S41.out.sq.sz;omega) (fun w' _ cs y h=>waR_flat _ _ _ _ h) ?_
     intro v1 y1 h1 h2 h3
     obtain⟨WL,hWL⟩:∃L,L=wl++[qw]:=⟨_,rfl⟩
     rw[←hWL] at h1
     have HWL:=Lib.hid hWL
     clear hWL
     obtain⟨wA,wc,rfl,_,_,_⟩:=h1.form
     have Sn:=S41.out.ap16 h1 h2 h3
     clear h1 h2 h3
     refine at_world (fun Y=>RS B b kv F0 w fs gv rv wv nv (.slice rA RL.length rc) (.slice wA WL.length wc) nv gl RL WL nl T qw (on:Int) x10 none none (some k23) Y) Sn fun X42 hY=> ?_
     clear Sn
     refine hK.out _ _ ⟨hY.ch.mono (fun _ _ e=> .inr e),fun _=>hY.ch, ?_⟩
     have S42:=Lib.hid hY
     clear hY hK K S41
     refine wpAnyT_at (E.put 115 (.slice wA WL.length wc) (by decide) rfl) fun b1 E1=> ?_
     clear E
     have E:=E1
     clear E1
     refine wpAnyT_all (rs:=[24]) (by decide+kernel) (by simp) fun j hj=> ?_
     simp only[List.mem_cons,List.not_mem_nil,or_false] at hj
     subst hj
     refine heldOpT (i:=24) rfl fun K hK=> ?_
     refine wpList_append_sl _ rfl (.tmp 119) (.tmp 122) 42 rfl intR B 3 _ 8 Try.underlying42 infoI rfl (by decide) nv nl (E.at 7 rfl) S42.out.sq.wx.n _ [(on:Int)] (E.at 1 rfl) (S42.out.t23 _ rfl).2.1.sl (by simp only[List.length_cons,List.length_nil];omega) (by decide) (by have h1:=S42.out.sq.bB;have h2:=S42.out.sq.sz;omega) (fun w' _ cs y h=>inR_flat _ _ _ _ h) ?_
     intro v1 y1 h1 h2 h3
     obtain⟨NL,hNL⟩:∃L,L=nl++[(on:Int)]:=⟨_,rfl⟩
     rw[←hNL] at h1
     have HNL:=Lib.hid hNL
     clear hNL
     obtain⟨nA,nc,rfl,_,_,_⟩:=h1.form
     have Sn:=S42.out.ap24 h1 h2 h3
     clear h1 h2 h3
     refine at_world (fun Y=>RS B b kv F0 w fs gv rv wv nv (.slice rA RL.length rc) (.slice wA WL.length wc) (.slice nA NL.length nc) gl RL WL NL T qw (on:Int) x10 none none none Y) Sn fun X43 hY=> ?_
     clear Sn
     refine hK.out _ _ ⟨hY.ch.mono (fun _ _ e=> .inr e),fun _=>hY.ch, ?_⟩
     have S43:=Lib.hid hY
     clear hY hK K S42
     refine wpAnyT_at (E.put 123 (.slice nA NL.length nc) (by decide) rfl) fun b1 E1=> ?_
     clear E
     have E:=E1
     clear E1
     refine wpAnyT_ops (ops':=((opsIn 16 (Try.f81.body.getD .skip)).getD #[])) (l':=#[true,true,true,true,true,true,true,true,true,true,true,true,true,true,true,true,true,true,true,true,true,true,true,true,true,false,false,false,false,false,false,false,false,false]) (by kernel_rfl) (by decide+kernel) ?_
     exact tail _ _ _ _ _ _ _ _ _ _ X43 (E.pick [25,26,27,28,29,30,31,24,23,22,3,1,0] rfl) HRL HWL HNL S43.out
   ·refine heldOpT (i:=23) rfl fun K hK=> ?_
    refine wpList_one_in rfl (.tmp 121) rfl (on:Int) (E.at 7 rfl) ?_
    have Sn:=S36.out.al23 hzb
    obtain⟨k23,hk⟩:∃k,X36.heap.size=k:=⟨_,rfl⟩
    rw[hk] at Sn⊢
    refine at_world (fun Y=>RS B b kv F0 w fs gv rv wv nv rv wv nv gl rl wl nl T qw (on:Int) x10 (some k8) (some k15) (some k23) Y) Sn fun X44 hY=> ?_
    clear hk Sn
    refine hK.out _ _ ⟨hY.ch.mono (fun _ _ e=> .inr e),fun _=>hY.ch, ?_⟩
    have S44:=Lib.hid hY
    clear hY hK K S36
    refine wpAnyT_at (E.put 122 (.slice (some ⟨k23,0,none⟩) 1 1) (by decide) rfl) fun b1 E1=> ?_
    clear E
    have E:=E1
    clear E1
    refine wpAnyT_all (rs:=[9]) (by decide+kernel) (by simp) fun j hj=> ?_
    simp only[List.mem_cons,List.not_mem_nil,or_false] at hj
    subst hj
    refine heldOpT (i:=9) rfl fun K hK=> ?_
    refine wpList_append_sl _ rfl (.tmp 105) (.tmp 107) 69 rfl tkR B 35 _ 56 Try.underlying69 infoK rfl (by decide) rv rl (E.at 7 rfl) S44.out.sq.wx.r _ [T] (E.at 1 rfl) (S44.out.t8 _ rfl).2.1.sl (by simp only[List.length_cons,List.length_nil];omega) (by decide) (by have h1:=S44.out.sq.bB;have h2:=S44.out.sq.sz;omega) (fun w' _ cs y h=>tkR_flat _ _ _ _ h) ?_
    intro v1 y1 h1 h2 h3
    obtain⟨RL,hRL⟩:∃L,L=rl++[T]:=⟨_,rfl⟩
    rw[←hRL] at h1
    have HRL:=Lib.hid hRL
    clear hRL
    obtain⟨rA,rc,rfl,_,_,_⟩:=h1.form
    have Sn:=S44.out.ap9 h1 h2 h3
    clear h1 h2 h3
    refine at_world (fun Y=>RS B b kv F0 w fs gv rv wv nv (.slice rA RL.length rc) wv nv gl RL wl nl T qw (on:Int) x10 none (some k15) (some k23) Y) Sn fun X45 hY=> ?_
    clear Sn
    refine hK.out _ _ ⟨hY.ch.mono (fun _ _ e=> .inr e),fun _=>hY.ch, ?_⟩
    have S45:=Lib.hid hY
    clear hY hK K S44
    refine wpAnyT_at (E.put 108 (.slice rA RL.length rc) (by decide) rfl) fun b1 E1=> ?_
    clear E
    have E:=E1
    clear E1
    refine wpAnyT_all (rs:=[16]) (by decide+kernel) (by simp) fun j hj=> ?_
    simp only[List.mem_cons,List.not_mem_nil,or_false] at hj
    subst hj
    refine heldOpT (i:=16) rfl fun K hK=> ?_
    refine wpList_append_sl _ rfl (.tmp 112) (.tmp 114) 74 rfl waR B 37 _ 24 Try.underlying74 infoWa rfl (by decide) wv wl (E.at 7 rfl) S45.out.sq.wx.wt _ [qw] (E.at 3 rfl) (S45.out.t15 _ rfl).2.1.sl (by simp only[List.length_cons,List.length_nil];omega) (by decide) (by have h1:=S45.out.sq.bB;have h2:=S45.out.sq.sz;omega) (fun w' _ cs y h=>waR_flat _ _ _ _ h) ?_
    intro v1 y1 h1 h2 h3
    obtain⟨WL,hWL⟩:∃L,L=wl++[qw]:=⟨_,rfl⟩
    rw[←hWL] at h1
    have HWL:=Lib.hid hWL
    clear hWL
    obtain⟨wA,wc,rfl,_,_,_⟩:=h1.form
    have Sn:=S45.out.ap16 h1 h2 h3
    clear h1 h2 h3
    refine at_world (fun Y=>RS B b kv F0 w fs gv rv wv nv (.slice rA RL.length rc) (.slice wA WL.length wc) nv gl RL WL nl T qw (on:Int) x10 none none (some k23) Y) Sn fun X46 hY=> ?_
    clear Sn
    refine hK.out _ _ ⟨hY.ch.mono (fun _ _ e=> .inr e),fun _=>hY.ch, ?_⟩
    have S46:=Lib.hid hY
    clear hY hK K S45
    refine wpAnyT_at (E.put 115 (.slice wA WL.length wc) (by decide) rfl) fun b1 E1=> ?_
    clear E
    have E:=E1
    clear E1
    refine wpAnyT_all (rs:=[24]) (by decide+kernel) (by simp) fun j hj=> ?_
    simp only[List.mem_cons,List.not_mem_nil,or_false] at hj
    subst hj
    refine heldOpT (i:=24) rfl fun K hK=> ?_
    refine wpList_append_sl _ rfl (.tmp 119) (.tmp 122) 42 rfl intR B 3 _ 8 Try.underlying42 infoI rfl (by decide) nv nl (E.at 7 rfl) S46.out.sq.wx.n _ [(on:Int)] (E.at 2 rfl) (S46.out.t23 _ rfl).2.1.sl (by simp only[List.length_cons,List.length_nil];omega) (by decide) (by have h1:=S46.out.sq.bB;have h2:=S46.out.sq.sz;omega) (fun w' _ cs y h=>inR_flat _ _ _ _ h) ?_
    intro v1 y1 h1 h2 h3
    obtain⟨NL,hNL⟩:∃L,L=nl++[(on:Int)]:=⟨_,rfl⟩
    rw[←hNL] at h1
    have HNL:=Lib.hid hNL
    clear hNL
    obtain⟨nA,nc,rfl,_,_,_⟩:=h1.form
    have Sn:=S46.out.ap24 h1 h2 h3
    clear h1 h2 h3
    refine at_world (fun Y=>RS B b kv F0 w fs gv rv wv nv (.slice rA RL.length rc) (.slice wA WL.length wc) (.slice nA NL.length nc) gl RL WL NL T qw (on:Int) x10 none none none Y) Sn fun X47 hY=> ?_
    clear Sn
    refine hK.out _ _ ⟨hY.ch.mono (fun _ _ e=> .inr e),fun _=>hY.ch, ?_⟩
    have S47:=Lib.hid hY
    clear hY hK K S46
    refine wpAnyT_at (E.put 123 (.slice nA NL.length nc) (by decide) rfl) fun b1 E1=> ?_
    clear E
    have E:=E1
    clear E1
    refine wpAnyT_ops (ops':=((opsIn 16 (Try.f81.body.getD .skip)).getD #[])) (l':=#[true,true,true,true,true,true,true,true,true,true,true,true,true,true,true,true,true,true,true,true,true,true,true,true,true,false,false,false,false,false,false,false,false,false]) (by kernel_rfl) (by decide+kernel) ?_
    exact tail _ _ _ _ _ _ _ _ _ _ X47 (E.pick [25,26,27,28,29,30,31,24,23,22,2,1,0] rfl) HRL HWL HNL S47.out
  ·refine heldOpT (i:=23) rfl fun K hK=> ?_
   refine wpList_one_in rfl (.tmp 121) rfl (on:Int) (E.at 6 rfl) ?_
   have Sn:=S35.out.al23 hzb
   obtain⟨k23,hk⟩:∃k,X35.heap.size=k:=⟨_,rfl⟩
   rw[hk] at Sn⊢
   refine at_world (fun Y=>RS B b kv F0 w fs gv rv wv nv rv wv nv gl rl wl nl T qw (on:Int) x10 none (some k15) (some k23) Y) Sn fun X48 hY=> ?_
   clear hk Sn
   refine hK.out _ _ ⟨hY.ch.mono (fun _ _ e=> .inr e),fun _=>hY.ch, ?_⟩
   have S48:=Lib.hid hY
   clear hY hK K S35
   refine wpAnyT_at (E.put 122 (.slice (some ⟨k23,0,none⟩) 1 1) (by decide) rfl) fun b1 E1=> ?_
   clear E
   have E:=E1
   clear E1
   refine wpAnyT_all (rs:=[8]) (by decide+kernel) (by simp) fun j hj=> ?_
   simp only[List.mem_cons,List.not_mem_nil,or_false] at hj
   subst hj
   refine heldOpT (i:=8) rfl fun K hK=> ?_
   refine wpList_one_tk rfl (.tmp 106) rfl T (E.at 3 rfl) ?_
   have Sn:=S48.out.al8
   obtain⟨k8,hk⟩:∃k,X48.heap.size=k:=⟨_,rfl⟩
   rw[hk] at Sn⊢
   refine at_world (fun Y=>RS B b kv F0 w fs gv rv wv nv rv wv nv gl rl wl nl T qw (on:Int) x10 (some k8) (some k15) (some k23) Y) Sn fun X49 hY=> ?_
   clear hk Sn
   refine hK.out _ _ ⟨hY.ch.mono (fun _ _ e=> .inr e),fun _=>hY.ch, ?_⟩
   have S49:=Lib.hid hY
   clear hY hK K S48
   refine wpAnyT_at (E.put 107 (.slice (some ⟨k8,0,none⟩) 1 1) (by decide) rfl) fun b1 E1=> ?_
   clear E
   have E:=E1
   clear E1
   refine wpAnyT_all (rs:=[9]) (by decide+kernel) (by simp) fun j hj=> ?_
   simp only[List.mem_cons,List.not_mem_nil,or_false] at hj
   subst hj
   refine heldOpT (i:=9) rfl fun K hK=> ?_
   refine wpList_append_sl _ rfl (.tmp 105) (.tmp 107) 69 rfl tkR B 35 _ 56 Try.underlying69 infoK rfl (by decide) rv rl (E.at 7 rfl) S49.out.sq.wx.r _ [T] (E.at 0 rfl) (S49.out.t8 _ rfl).2.1.sl (by simp only[List.length_cons,List.length_nil];omega) (by decide) (by have h1:=S49.out.sq.bB;have h2:=S49.out.sq.sz;omega) (fun w' _ cs y h=>tkR_flat _ _ _ _ h) ?_
   intro v1 y1 h1 h2 h3
   obtain⟨RL,hRL⟩:∃L,L=rl++[T]:=⟨_,rfl⟩
   rw[←hRL] at h1
   have HRL:=Lib.hid hRL
   clear hRL
   obtain⟨rA,rc,rfl,_,_,_⟩:=h1.form
   have Sn:=S49.out.ap9 h1 h2 h3
   clear h1 h2 h3
   refine at_world (fun Y=>RS B b kv F0 w fs gv rv wv nv (.slice rA RL.length rc) wv nv gl RL wl nl T qw (on:Int) x10 none (some k15) (some k23) Y) Sn fun X50 hY=> ?_
   clear Sn
   refine hK.out _ _ ⟨hY.ch.mono (fun _ _ e=> .inr e),fun _=>hY.ch, ?_⟩
   have S50:=Lib.hid hY
   clear hY hK K S49
   refine wpAnyT_at (E.put 108 (.slice rA RL.length rc) (by decide) rfl) fun b1 E1=> ?_
   clear E
   have E:=E1
   clear E1
   refine wpAnyT_all (rs:=[16]) (by decide+kernel) (by simp) fun j hj=> ?_
   simp only[List.mem_cons,List.not_mem_nil,or_false] at hj
   subst hj
   refine heldOpT (i:=16) rfl fun K hK=> ?_
   refine wpList_append_sl _ rfl (.tmp 112) (.tmp 114) 74 rfl waR B 37 _ 24 Try.underlying74 infoWa rfl (by decide) wv wl (E.at 7 rfl) S50.out.sq.wx.wt _ [qw] (E.at 3 rfl) (S50.out.t15 _ rfl).2.1.sl (by simp only[List.length_cons,List.length_nil];omega) (by decide) (by have h1:=S50.out.sq.bB;have h2:=S50.out.sq.sz;omega) (fun w' _ cs y h=>waR_flat _ _ _ _ h) ?_
   intro v1 y1 h1 h2 h3
   obtain⟨WL,hWL⟩:∃L,L=wl++[qw]:=⟨_,rfl⟩
   rw[←hWL] at h1
   have HWL:=Lib.hid hWL
   clear hWL
   obtain⟨wA,wc,rfl,_,_,_⟩:=h1.form
   have Sn:=S50.out.ap16 h1 h2 h3
   clear h1 h2 h3
   refine at_world (fun Y=>RS B b kv F0 w fs gv rv wv nv (.slice rA RL.length rc) (.slice wA WL.length wc) nv gl RL WL nl T qw (on:Int) x10 none none (some k23) Y) Sn fun X51 hY=> ?_
   clear Sn
   refine hK.out _ _ ⟨hY.ch.mono (fun _ _ e=> .inr e),fun _=>hY.ch, ?_⟩
   have S51:=Lib.hid hY
   clear hY hK K S50
   refine wpAnyT_at (E.put 115 (.slice wA WL.length wc) (by decide) rfl) fun b1 E1=> ?_
   clear E
   have E:=E1
   clear E1
   refine wpAnyT_all (rs:=[24]) (by decide+kernel) (by simp) fun j hj=> ?_
   simp only[List.mem_cons,List.not_mem_nil,or_false] at hj
   subst hj
   refine heldOpT (i:=24) rfl fun K hK=> ?_
   refine wpList_append_sl _ rfl (.tmp 119) (.tmp 122) 42 rfl intR B 3 _ 8 Try.underlying42 infoI rfl (by decide) nv nl (E.at 7 rfl) S51.out.sq.wx.n _ [(on:Int)] (E.at 3 rfl) (S51.out.t23 _ rfl).2.1.sl (by simp only[List.length_cons,List.length_nil];omega) (by decide) (by have h1:=S51.out.sq.bB;have h2:=S51.out.sq.sz;omega) (fun w' _ cs y h=>inR_flat _ _ _ _ h) ?_
   intro v1 y1 h1 h2 h3
   obtain⟨NL,hNL⟩:∃L,L=nl++[(on:Int)]:=⟨_,rfl⟩
   rw[←hNL] at h1
   have HNL:=Lib.hid hNL
   clear hNL
   obtain⟨nA,nc,rfl,_,_,_⟩:=h1.form
   have Sn:=S51.out.ap24 h1 h2 h3
   clear h1 h2 h3
   refine at_world (fun Y=>RS B b kv F0 w fs gv rv wv nv (.slice rA RL.length rc) (.slice wA WL.length wc) (.slice nA NL.length nc) gl RL WL NL T qw (on:Int) x10 none none none Y) Sn fun X52 hY=> ?_
   clear Sn
   refine hK.out _ _ ⟨hY.ch.mono (fun _ _ e=> .inr e),fun _=>hY.ch, ?_⟩
   have S52:=Lib.hid hY
   clear hY hK K S51
   refine wpAnyT_at (E.put 123 (.slice nA NL.length nc) (by decide) rfl) fun b1 E1=> ?_
   clear E
   have E:=E1
   clear E1
   refine wpAnyT_ops (ops':=((opsIn 16 (Try.f81.body.getD .skip)).getD #[])) (l':=#[true,true,true,true,true,true,true,true,true,true,true,true,true,true,true,true,true,true,true,true,true,true,true,true,true,false,false,false,false,false,false,false,false,false]) (by kernel_rfl) (by decide+kernel) ?_
   exact tail _ _ _ _ _ _ _ _ _ _ X52 (E.pick [25,26,27,28,29,30,31,24,23,22,2,1,0] rfl) HRL HWL HNL S52.out
 ·refine heldOpT (i:=23) rfl fun K hK=> ?_
  refine wpList_one_in rfl (.tmp 121) rfl (on:Int) (E.at 5 rfl) ?_
  have Sn:=S0.out.al23 hzb
  obtain⟨k23,hk⟩:∃k,X0.heap.size=k:=⟨_,rfl⟩
  rw[hk] at Sn⊢
  refine at_world (fun Y=>RS B b kv F0 w fs gv rv wv nv rv wv nv gl rl wl nl T qw (on:Int) x10 none none (some k23) Y) Sn fun X53 hY=> ?_
  clear hk Sn
  refine hK.out _ _ ⟨hY.ch.mono (fun _ _ e=> .inr e),fun _=>hY.ch, ?_⟩
  have S53:=Lib.hid hY
  clear hY hK K S0
  refine wpAnyT_at (E.put 122 (.slice (some ⟨k23,0,none⟩) 1 1) (by decide) rfl) fun b1 E1=> ?_
  clear E
  have E:=E1
  clear E1
  refine wpAnyT_all (rs:=[8,15]) (by decide+kernel) (by simp) fun j hj=> ?_
  simp only[List.mem_cons,List.not_mem_nil,or_false] at hj
  rcases hj with rfl|rfl
  ·refine heldOpT (i:=8) rfl fun K hK=> ?_
   refine wpList_one_tk rfl (.tmp 106) rfl T (E.at 2 rfl) ?_
   have Sn:=S53.out.al8
   obtain⟨k8,hk⟩:∃k,X53.heap.size=k:=⟨_,rfl⟩
   rw[hk] at Sn⊢
   refine at_world (fun Y=>RS B b kv F0 w fs gv rv wv nv rv wv nv gl rl wl nl T qw (on:Int) x10 (some k8) none (some k23) Y) Sn fun X54 hY=> ?_
   clear hk Sn
   refine hK.out _ _ ⟨hY.ch.mono (fun _ _ e=> .inr e),fun _=>hY.ch, ?_⟩
   have S54:=Lib.hid hY
   clear hY hK K S53
   refine wpAnyT_at (E.put 107 (.slice (some ⟨k8,0,none⟩) 1 1) (by decide) rfl) fun b1 E1=> ?_
   clear E
   have E:=E1
   clear E1
   refine wpAnyT_all (rs:=[9,15]) (by decide+kernel) (by simp) fun j hj=> ?_
   simp only[List.mem_cons,List.not_mem_nil,or_false] at hj
   rcases hj with rfl|rfl
   ·refine heldOpT (i:=9) rfl fun K hK=> ?_
    refine wpList_append_sl _ rfl (.tmp 105) (.tmp 107) 69 rfl tkR B 35 _ 56 Try.underlying69 infoK rfl (by decide) rv rl (E.at 6 rfl) S54.out.sq.wx.r _ [T] (E.at 0 rfl) (S54.out.t8 _ rfl).2.1.sl (by simp only[List.length_cons,List.length_nil];omega) (by decide) (by have h1:=S54.out.sq.bB;have h2:=S54.out.sq.sz;omega) (fun w' _ cs y h=>tkR_flat _ _ _ _ h) ?_
    intro v1 y1 h1 h2 h3
    obtain⟨RL,hRL⟩:∃L,L=rl++[T]:=⟨_,rfl⟩
    rw[←hRL] at h1
    have HRL:=Lib.hid hRL
    clear hRL
    obtain⟨rA,rc,rfl,_,_,_⟩:=h1.form
    have Sn:=S54.out.ap9 h1 h2 h3
    clear h1 h2 h3
    refine at_world (fun Y=>RS B b kv F0 w fs gv rv wv nv (.slice rA RL.length rc) wv nv gl RL wl nl T qw (on:Int) x10 none none (some k23) Y) Sn fun X55 hY=> ?_
    clear Sn
    refine hK.out _ _ ⟨hY.ch.mono (fun _ _ e=> .inr e),fun _=>hY.ch, ?_⟩
    have S55:=Lib.hid hY
    clear hY hK K S54
    refine wpAnyT_at (E.put 108 (.slice rA RL.length rc) (by decide) rfl) fun b1 E1=> ?_
    clear E
    have E:=E1
    clear E1
    refine wpAnyT_all (rs:=[15]) (by decide+kernel) (by simp) fun j hj=> ?_
    simp only[List.mem_cons,List.not_mem_nil,or_false] at hj
    subst hj
    refine heldOpT (i:=15) rfl fun K hK=> ?_
    refine wpList_one_wa rfl (.tmp 113) rfl qw (E.at 3 rfl) ?_
    have Sn:=S55.out.al15
    obtain⟨k15,hk⟩:∃k,X55.heap.size=k:=⟨_,rfl⟩
    rw[hk] at Sn⊢
    refine at_world (fun Y=>RS B b kv F0 w fs gv rv wv nv (.slice rA RL.length rc) wv nv gl RL wl nl T qw (on:Int) x10 none (some k15) (some k23) Y) Sn fun X56 hY=> ?_
    clear hk Sn
    refine hK.out _ _ ⟨hY.ch.mono (fun _ _ e=> .inr e),fun _=>hY.ch, ?_⟩
    have S56:=Lib.hid hY
    clear hY hK K S55
    refine wpAnyT_at (E.put 114 (.slice (some ⟨k15,0,none⟩) 1 1) (by decide) rfl) fun b1 E1=> ?_
    clear E
    have E:=E1
    clear E1
    refine wpAnyT_all (rs:=[16]) (by decide+kernel) (by simp) fun j hj=> ?_
    simp only[List.mem_cons,List.not_mem_nil,or_false] at hj
    subst hj
    refine heldOpT (i:=16) rfl fun K hK=> ?_
    refine wpList_append_sl _ rfl (.tmp 112) (.tmp 114) 74 rfl waR B 37 _ 24 Try.underlying74 infoWa rfl (by decide) wv wl (E.at 7 rfl) S56.out.sq.wx.wt _ [qw] (E.at 0 rfl) (S56.out.t15 _ rfl).2.1.sl (by simp only[List.length_cons,List.length_nil];omega) (by decide) (by have h1:=S56.out.sq.bB;have h2:=S56.out.sq.sz;omega) (fun w' _ cs y h=>waR_flat _ _ _ _ h) ?_
    intro v1 y1 h1 h2 h3
    obtain⟨WL,hWL⟩:∃L,L=wl++[qw]:=⟨_,rfl⟩
    rw[←hWL] at h1
    have HWL:=Lib.hid hWL
    clear hWL
    obtain⟨wA,wc,rfl,_,_,_⟩:=h1.form
    have Sn:=S56.out.ap16 h1 h2 h3
    clear h1 h2 h3
    refine at_world (fun Y=>RS B b kv F0 w fs gv rv wv nv (.slice rA RL.length rc) (.slice wA WL.length wc) nv gl RL WL nl T qw (on:Int) x10 none none (some k23) Y) Sn fun X57 hY=> ?_
    clear Sn
    refine hK.out _ _ ⟨hY.ch.mono (fun _ _ e=> .inr e),fun _=>hY.ch, ?_⟩
    have S57:=Lib.hid hY
    clear hY hK K S56
    refine wpAnyT_at (E.put 115 (.slice wA WL.length wc) (by decide) rfl) fun b1 E1=> ?_
    clear E
    have E:=E1
    clear E1
    refine wpAnyT_all (rs:=[24]) (by decide+kernel) (by simp) fun j hj=> ?_
    simp only[List.mem_cons,List.not_mem_nil,or_false] at hj
    subst hj
    refine heldOpT (i:=24) rfl fun K hK=> ?_
    refine wpList_append_sl _ rfl (.tmp 119) (.tmp 122) 42 rfl intR B 3 _ 8 Try.underlying42 infoI rfl (by decide) nv nl (E.at 7 rfl) S57.out.sq.wx.n _ [(on:Int)] (E.at 4 rfl) (S57.out.t23 _ rfl).2.1.sl (by simp only[List.length_cons,List.length_nil];omega) (by decide) (by have h1:=S57.out.sq.bB;have h2:=S57.out.sq.sz;omega) (fun w' _ cs y h=>inR_flat _ _ _ _ h) ?_
    intro v1 y1 h1 h2 h3
    obtain⟨NL,hNL⟩:∃L,L=nl++[(on:Int)]:=⟨_,rfl⟩
    rw[←hNL] at h1
    have HNL:=Lib.hid hNL
    clear hNL
    obtain⟨nA,nc,rfl,_,_,_⟩:=h1.form
    have Sn:=S57.out.ap24 h1 h2 h3
    clear h1 h2 h3
    refine at_world (fun Y=>RS B b kv F0 w fs gv rv wv nv (.slice rA RL.length rc) (.slice wA WL.length wc) (.slice nA NL.length nc) gl RL WL NL T qw (on:Int) x10 none none none Y) Sn fun X58 hY=> ?_
    clear Sn
    refine hK.out _ _ ⟨hY.ch.mono (fun _ _ e=> .inr e),fun _=>hY.ch, ?_⟩
    have S58:=Lib.hid hY
    clear hY hK K S57
    refine wpAnyT_at (E.put 123 (.slice nA NL.length nc) (by decide) rfl) fun b1 E1=> ?_
    clear E
    have E:=E1
    clear E1
    refine wpAnyT_ops (ops':=((opsIn 16 (Try.f81.body.getD .skip)).getD #[])) (l':=#[true,true,true,true,true,true,true,true,true,true,true,true,true,true,true,true,true,true,true,true,true,true,true,true,true,false,false,false,false,false,false,false,false,false]) (by kernel_rfl) (by decide+kernel) ?_
    exact tail _ _ _ _ _ _ _ _ _ _ X58 (E.pick [25,26,27,28,29,30,31,24,23,22,3,1,0] rfl) HRL HWL HNL S58.out
   ·refine heldOpT (i:=15) rfl fun K hK=> ?_
    refine wpList_one_wa rfl (.tmp 113) rfl qw (E.at 2 rfl) ?_
    have Sn:=S54.out.al15
    obtain⟨k15,hk⟩:∃k,X54.heap.size=k:=⟨_,rfl⟩
    rw[hk] at Sn⊢
    refine at_world (fun Y=>RS B b kv F0 w fs gv rv wv nv rv wv nv gl rl wl nl T qw (on:Int) x10 (some k8) (some k15) (some k23) Y) Sn fun X59 hY=> ?_
    clear hk Sn
    refine hK.out _ _ ⟨hY.ch.mono (fun _ _ e=> .inr e),fun _=>hY.ch, ?_⟩
    have S59:=Lib.hid hY
    clear hY hK K S54
    refine wpAnyT_at (E.put 114 (.slice (some ⟨k15,0,none⟩) 1 1) (by decide) rfl) fun b1 E1=> ?_
    clear E
    have E:=E1
    clear E1
    refine wpAnyT_all (rs:=[9]) (by decide+kernel) (by simp) fun j hj=> ?_
    simp only[List.mem_cons,List.not_mem_nil,or_false] at hj
    subst hj
    refine heldOpT (i:=9) rfl fun K hK=> ?_
    refine wpList_append_sl _ rfl (.tmp 105) (.tmp 107) 69 rfl tkR B 35 _ 56 Try.underlying69 infoK rfl (by decide) rv rl (E.at 7 rfl) S59.out.sq.wx.r _ [T] (E.at 1 rfl) (S59.out.t8 _ rfl).2.1.sl (by simp only[List.length_cons,List.length_nil];omega) (by decide) (by have h1:=S59.out.sq.bB;have h2:=S59.out.sq.sz;omega) (fun w' _ cs y h=>tkR_flat _ _ _ _ h) ?_
    intro v1 y1 h1 h2 h3
    obtain⟨RL,hRL⟩:∃L,L=rl++[T]:=⟨_,rfl⟩
    rw[←hRL] at h1
    have HRL:=Lib.hid hRL
    clear hRL
    obtain⟨rA,rc,rfl,_,_,_⟩:=h1.form
    have Sn:=S59.out.ap9 h1 h2 h3
    clear h1 h2 h3
    refine at_world (fun Y=>RS B b kv F0 w fs gv rv wv nv (.slice rA RL.length rc) wv nv gl RL wl nl T qw (on:Int) x10 none (some k15) (some k23) Y) Sn fun X60 hY=> ?_
    clear Sn
    refine hK.out _ _ ⟨hY.ch.mono (fun _ _ e=> .inr e),fun _=>hY.ch, ?_⟩
    have S60:=Lib.hid hY
    clear hY hK K S59
    refine wpAnyT_at (E.put 108 (.slice rA RL.length rc) (by decide) rfl) fun b1 E1=> ?_
    clear E
    have E:=E1
    clear E1
    refine wpAnyT_all (rs:=[16]) (by decide+kernel) (by simp) fun j hj=> ?_
    simp only[List.mem_cons,List.not_mem_nil,or_false] at hj
    subst hj
    refine heldOpT (i:=16) rfl fun K hK=> ?_
    refine wpList_append_sl _ rfl (.tmp 112) (.tmp 114) 74 rfl waR B 37 _ 24 Try.underlying74 infoWa rfl (by decide) wv wl (E.at 7 rfl) S60.out.sq.wx.wt _ [qw] (E.at 1 rfl) (S60.out.t15 _ rfl).2.1.sl (by simp only[List.length_cons,List.length_nil];omega) (by decide) (by have h1:=S60.out.sq.bB;have h2:=S60.out.sq.sz;omega) (fun w' _ cs y h=>waR_flat _ _ _ _ h) ?_
    intro v1 y1 h1 h2 h3
    obtain⟨WL,hWL⟩:∃L,L=wl++[qw]:=⟨_,rfl⟩
    rw[←hWL] at h1
    have HWL:=Lib.hid hWL
    clear hWL
    obtain⟨wA,wc,rfl,_,_,_⟩:=h1.form
    have Sn:=S60.out.ap16 h1 h2 h3
    clear h1 h2 h3
    refine at_world (fun Y=>RS B b kv F0 w fs gv rv wv nv (.slice rA RL.length rc) (.slice wA WL.length wc) nv gl RL WL nl T qw (on:Int) x10 none none (some k23) Y) Sn fun X61 hY=> ?_
    clear Sn
    refine hK.out _ _ ⟨hY.ch.mono (fun _ _ e=> .inr e),fun _=>hY.ch, ?_⟩
    have S61:=Lib.hid hY
    clear hY hK K S60
    refine wpAnyT_at (E.put 115 (.slice wA WL.length wc) (by decide) rfl) fun b1 E1=> ?_
    clear E
    have E:=E1
    clear E1
    refine wpAnyT_all (rs:=[24]) (by decide+kernel) (by simp) fun j hj=> ?_
    simp only[List.mem_cons,List.not_mem_nil,or_false] at hj
    subst hj
    refine heldOpT (i:=24) rfl fun K hK=> ?_
    refine wpList_append_sl _ rfl (.tmp 119) (.tmp 122) 42 rfl intR B 3 _ 8 Try.underlying42 infoI rfl (by decide) nv nl (E.at 7 rfl) S61.out.sq.wx.n _ [(on:Int)] (E.at 4 rfl) (S61.out.t23 _ rfl).2.1.sl (by simp only[List.length_cons,List.length_nil];omega) (by decide) (by have h1:=S61.out.sq.bB;have h2:=S61.out.sq.sz;omega) (fun w' _ cs y h=>inR_flat _ _ _ _ h) ?_
    intro v1 y1 h1 h2 h3
    obtain⟨NL,hNL⟩:∃L,L=nl++[(on:Int)]:=⟨_,rfl⟩
    rw[←hNL] at h1
    have HNL:=Lib.hid hNL
    clear hNL
    obtain⟨nA,nc,rfl,_,_,_⟩:=h1.form
    have Sn:=S61.out.ap24 h1 h2 h3
    clear h1 h2 h3
    refine at_world (fun Y=>RS B b kv F0 w fs gv rv wv nv (.slice rA RL.length rc) (.slice wA WL.length wc) (.slice nA NL.length nc) gl RL WL NL T qw (on:Int) x10 none none none Y) Sn fun X62 hY=> ?_
    clear Sn
    refine hK.out _ _ ⟨hY.ch.mono (fun _ _ e=> .inr e),fun _=>hY.ch, ?_⟩
    have S62:=Lib.hid hY
    clear hY hK K S61
    refine wpAnyT_at (E.put 123 (.slice nA NL.length nc) (by decide) rfl) fun b1 E1=> ?_
    clear E
    have E:=E1
    clear E1
    refine wpAnyT_ops (ops':=((opsIn 16 (Try.f81.body.getD .skip)).getD #[])) (l':=#[true,true,true,true,true,true,true,true,true,true,true,true,true,true,true,true,true,true,true,true,true,true,true,true,true,false,false,false,false,false,false,false,false,false]) (by kernel_rfl) (by decide+kernel) ?_
    exact tail _ _ _ _ _ _ _ _ _ _ X62 (E.pick [25,26,27,28,29,30,31,24,23,22,2,1,0] rfl) HRL HWL HNL S62.out
  ·refine heldOpT (i:=15) rfl fun K hK=> ?_
   refine wpList_one_wa rfl (.tmp 113) rfl qw (E.at 1 rfl) ?_
   have Sn:=S53.out.al15
   obtain⟨k15,hk⟩:∃k,X53.heap.size=k:=⟨_,rfl⟩
   rw[hk] at Sn⊢
   refine at_world (fun Y=>RS B b kv F0 w fs gv rv wv nv rv wv nv gl rl wl nl T qw (on:Int) x10 none (some k15) (some k23) Y) Sn fun X63 hY=> ?_
   clear hk Sn
   refine hK.out _ _ ⟨hY.ch.mono (fun _ _ e=> .inr e),fun _=>hY.ch, ?_⟩
   have S63:=Lib.hid hY
   clear hY hK K S53
   refine wpAnyT_at (E.put 114 (.slice (some ⟨k15,0,none⟩) 1 1) (by decide) rfl) fun b1 E1=> ?_
   clear E
   have E:=E1
   clear E1
   refine wpAnyT_all (rs:=[8]) (by decide+kernel) (by simp) fun j hj=> ?_
   simp only[List.mem_cons,List.not_mem_nil,or_false] at hj
   subst hj
   refine heldOpT (i:=8) rfl fun K hK=> ?_
   refine wpList_one_tk rfl (.tmp 106) rfl T (E.at 3 rfl) ?_
   have Sn:=S63.out.al8
   obtain⟨k8,hk⟩:∃k,X63.heap.size=k:=⟨_,rfl⟩
   rw[hk] at Sn⊢
   refine at_world (fun Y=>RS B b kv F0 w fs gv rv wv nv rv wv nv gl rl wl nl T qw (on:Int) x10 (some k8) (some k15) (some k23) Y) Sn fun X64 hY=> ?_
   clear hk Sn
   refine hK.out _ _ ⟨hY.ch.mono (fun _ _ e=> .inr e),fun _=>hY.ch, ?_⟩
   have S64:=Lib.hid hY
   clear hY hK K S63
   refine wpAnyT_at (E.put 107 (.slice (some ⟨k8,0,none⟩) 1 1) (by decide) rfl) fun b1 E1=> ?_
   clear E
   have E:=E1
   clear E1
   refine wpAnyT_all (rs:=[9]) (by decide+kernel) (by simp) fun j hj=> ?_
   simp only[List.mem_cons,List.not_mem_nil,or_false] at hj
   subst hj
   refine heldOpT (i:=9) rfl fun K hK=> ?_
   refine wpList_append_sl _ rfl (.tmp 105) (.tmp 107) 69 rfl tkR B 35 _ 56 Try.underlying69 infoK rfl (by decide) rv rl (E.at 7 rfl) S64.out.sq.wx.r _ [T] (E.at 0 rfl) (S64.out.t8 _ rfl).2.1.sl (by simp only[List.length_cons,List.length_nil];omega) (by decide) (by have h1:=S64.out.sq.bB;have h2:=S64.out.sq.sz;omega) (fun w' _ cs y h=>tkR_flat _ _ _ _ h) ?_
   intro v1 y1 h1 h2 h3
   obtain⟨RL,hRL⟩:∃L,L=rl++[T]:=⟨_,rfl⟩
   rw[←hRL] at h1
   have HRL:=Lib.hid hRL
   clear hRL
   obtain⟨rA,rc,rfl,_,_,_⟩:=h1.form
   have Sn:=S64.out.ap9 h1 h2 h3
   clear h1 h2 h3
   refine at_world (fun Y=>RS B b kv F0 w fs gv rv wv nv (.slice rA RL.length rc) wv nv gl RL wl nl T qw (on:Int) x10 none (some k15) (some k23) Y) Sn fun X65 hY=> ?_
   clear Sn
   refine hK.out _ _ ⟨hY.ch.mono (fun _ _ e=> .inr e),fun _=>hY.ch, ?_⟩
   have S65:=Lib.hid hY
   clear hY hK K S64
   refine wpAnyT_at (E.put 108 (.slice rA RL.length rc) (by decide) rfl) fun b1 E1=> ?_
   clear E
   have E:=E1
   clear E1
   refine wpAnyT_all (rs:=[16]) (by decide+kernel) (by simp) fun j hj=> ?_
   simp only[List.mem_cons,List.not_mem_nil,or_false] at hj
   subst hj
   refine heldOpT (i:=16) rfl fun K hK=> ?_
   refine wpList_append_sl _ rfl (.tmp 112) (.tmp 114) 74 rfl waR B 37 _ 24 Try.underlying74 infoWa rfl (by decide) wv wl (E.at 7 rfl) S65.out.sq.wx.wt _ [qw] (E.at 2 rfl) (S65.out.t15 _ rfl).2.1.sl (by simp only[List.length_cons,List.length_nil];omega) (by decide) (by have h1:=S65.out.sq.bB;have h2:=S65.out.sq.sz;omega) (fun w' _ cs y h=>waR_flat _ _ _ _ h) ?_
   intro v1 y1 h1 h2 h3
   obtain⟨WL,hWL⟩:∃L,L=wl++[qw]:=⟨_,rfl⟩
   rw[←hWL] at h1
   have HWL:=Lib.hid hWL
   clear hWL
   obtain⟨wA,wc,rfl,_,_,_⟩:=h1.form
   have Sn:=S65.out.ap16 h1 h2 h3
   clear h1 h2 h3
   refine at_world (fun Y=>RS B b kv F0 w fs gv rv wv nv (.slice rA RL.length rc) (.slice wA WL.length wc) nv gl RL WL nl T qw (on:Int) x10 none none (some k23) Y) Sn fun X66 hY=> ?_
   clear Sn
   refine hK.out _ _ ⟨hY.ch.mono (fun _ _ e=> .inr e),fun _=>hY.ch, ?_⟩
   have S66:=Lib.hid hY
   clear hY hK K S65
   refine wpAnyT_at (E.put 115 (.slice wA WL.length wc) (by decide) rfl) fun b1 E1=> ?_
   clear E
   have E:=E1
   clear E1
   refine wpAnyT_all (rs:=[24]) (by decide+kernel) (by simp) fun j hj=> ?_
   simp only[List.mem_cons,List.not_mem_nil,or_false] at hj
   subst hj
   refine heldOpT (i:=24) rfl fun K hK=> ?_
   refine wpList_append_sl _ rfl (.tmp 119) (.tmp 122) 42 rfl intR B 3 _ 8 Try.underlying42 infoI rfl (by decide) nv nl (E.at 7 rfl) S66.out.sq.wx.n _ [(on:Int)] (E.at 4 rfl) (S66.out.t23 _ rfl).2.1.sl (by simp only[List.length_cons,List.length_nil];omega) (by decide) (by have h1:=S66.out.sq.bB;have h2:=S66.out.sq.sz;omega) (fun w' _ cs y h=>inR_flat _ _ _ _ h) ?_
   intro v1 y1 h1 h2 h3
   obtain⟨NL,hNL⟩:∃L,L=nl++[(on:Int)]:=⟨_,rfl⟩
   rw[←hNL] at h1
   have HNL:=Lib.hid hNL
   clear hNL
   obtain⟨nA,nc,rfl,_,_,_⟩:=h1.form
   have Sn:=S66.out.ap24 h1 h2 h3
   clear h1 h2 h3
   refine at_world (fun Y=>RS B b kv F0 w fs gv rv wv nv (.slice rA RL.length rc) (.slice wA WL.length wc) (.slice nA NL.length nc) gl RL WL NL T qw (on:Int) x10 none none none Y) Sn fun X67 hY=> ?_
   clear Sn
   refine hK.out _ _ ⟨hY.ch.mono (fun _ _ e=> .inr e),fun _=>hY.ch, ?_⟩
   have S67:=Lib.hid hY
   clear hY hK K S66
   refine wpAnyT_at (E.put 123 (.slice nA NL.length nc) (by decide) rfl) fun b1 E1=> ?_
   clear E
   have E:=E1
   clear E1
   refine wpAnyT_ops (ops':=((opsIn 16 (Try.f81.body.getD .skip)).getD #[])) (l':=#[true,true,true,true,true,true,true,true,true,true,true,true,true,true,true,true,true,true,true,true,true,true,true,true,true,false,false,false,false,false,false,false,false,false]) (by kernel_rfl) (by decide+kernel) ?_
   exact tail _ _ _ _ _ _ _ _ _ _ X67 (E.pick [25,26,27,28,29,30,31,24,23,22,2,1,0] rfl) HRL HWL HNL S67.out
end Go.Proofs.Ytlngbdggehghgaa
