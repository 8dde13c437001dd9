/-
  Walks of groundlingref16's functions: they answer as those of package seats; of groundlingref05.both, Add, Passed. Conditions: as each theorem says.
-/
import Derived.Test.YtlckmjiioohcmaaGreatDoorSxC
import Derived.Test.YtlckmjiioohcmaaGreatDoorVnI
namespace Go.Proofs.YtlckmjiioohcmaaGreatDoor
open Go.RowKit
set_option maxHeartbeats 2000000 in
theorem r16Check_any (x:Sx) (w:World):Calls Tryz.prog 65 #[sxV x] w fun e w'=>e=.returned (.int .i64 (sxCheck x))∧Below w.heap.size w w':=by
 have hT:=Lib.hid (show sxCheck x=if x.state=1 then(if x.till<0 then 6 else 0) else if x.state=0 then(if x.owner≠0 then 6 else if x.till≠0 then 6 else 0) else if x.state=2 then(if x.till≠0 then 6 else 0) else 6 from rfl)
 unfold sxV
 generalize sxCheck x=M at hT⊢
 obtain⟨st,ow,ti,se,ep⟩:=x
 simp only at hT⊢
 by_cases h1:st=1
 ·subst h1
  by_cases h:ti<0
  ·have t:decide (0≤ti)=false:=decide_eq_false (by omega)
   obtain rfl:M=6:=by rw[hT.out];simp[h]
   clear h
   go_enter Tryz.func65,Tryz.ntmps65
   go_wp2_with fail
   go_ret
   exact⟨rfl,ba _ _⟩
  ·have t:decide (0≤ti)=true:=decide_eq_true (by omega)
   obtain rfl:M=0:=by rw[hT.out];simp[h]
   clear h
   go_enter Tryz.func65,Tryz.ntmps65
   go_wp2_with fail
   go_ret
   exact⟨rfl,ba _ _⟩
 have t1:(st==1)=false:=by simpa using h1
 by_cases h0:st=0
 ·subst h0
  by_cases h:ow=0
  ·subst h
   by_cases h:ti=0
   ·subst h
    obtain rfl:M=0:=by rw[hT.out];simp
    clear h1 t1
    go_enter Tryz.func65,Tryz.ntmps65
    go_wp2_with fail
    go_ret
    exact⟨rfl,ba _ _⟩
   ·have t:(ti==0)=false:=by simpa using h
    obtain rfl:M=6:=by rw[hT.out];simp[h]
    clear h h1 t1
    go_enter Tryz.func65,Tryz.ntmps65
    go_wp2_with fail
    go_ret
    exact⟨rfl,ba _ _⟩
  ·have t:(ow==0)=false:=by simpa using h
   obtain rfl:M=6:=by rw[hT.out];simp[h]
   clear h h1 t1
   go_enter Tryz.func65,Tryz.ntmps65
   go_wp2_with fail
   go_ret
   exact⟨rfl,ba _ _⟩
 have t0:(st==0)=false:=by simpa using h0
 by_cases h2:st=2
 ·subst h2
  by_cases h:ti=0
  ·subst h
   obtain rfl:M=0:=by rw[hT.out];simp
   clear t0 t1 h0 h1
   go_enter Tryz.func65,Tryz.ntmps65
   go_wp2_with fail
   go_ret
   exact⟨rfl,ba _ _⟩
  ·have t:(ti==0)=false:=by simpa using h
   obtain rfl:M=6:=by rw[hT.out];simp[h]
   clear h t0 t1 h0 h1
   go_enter Tryz.func65,Tryz.ntmps65
   go_wp2_with fail
   go_ret
   exact⟨rfl,ba _ _⟩
 ·have t2:(st==2)=false:=by simpa using h2
  obtain rfl:M=6:=by rw[hT.out];simp[h0,h1,h2]
  clear h0 h1 h2
  go_enter Tryz.func65,Tryz.ntmps65
  go_wp2_with fail
  go_ret
  exact⟨rfl,ba _ _⟩
set_option maxHeartbeats 2000000 in
theorem r16In_any (x:Sx) (want:Int) (w:World):Calls Tryz.prog 108 #[sxV x,.int .i64 want] w fun e w'=>e=.returned (.int .i64 (sxState x want))∧Below w.heap.size w w':=by
 have C:=Lib.hid (r16Check_any x)
 have hT:=Lib.hid (show sxState x want=if sxCheck x≠0 then sxCheck x else if x.state≠want then 15 else 0 from rfl)
 unfold sxV at C⊢
 generalize sxState x want=M at hT⊢
 generalize sxCheck x=E at C hT
 obtain⟨st,ow,ti,se,ep⟩:=x
 simp only at C hT⊢
 by_cases h:E=0
 ·subst h
  by_cases h1:st=want
  ·obtain rfl:M=0:=by rw[hT.out];simp[h1]
   have t:(st !=want)=false:=by simpa using h1
   clear h1
   go_enter Tryz.func108,Tryz.ntmps108
   go_wp2_with fail
   refine(C.out _).mono ?_
   rintro e w1 ⟨rfl,hb1⟩
   have hB1:=Lib.hid ((ba w _).trans (hb1.mono (ba w _).size))
   have b01:=(BoxN.new w 81 #[.int .i64 st,.int .u32 ow,.int .i64 ti,.int .u64 se,.int .u64 ep]).later hb1
   have H01:=Lib.hid b01
   clear b01
   clear hb1
   obtain⟨c00,f00,c01,f01,c02,f02,c03,f03,c04,f04,z0⟩:=H01.out.x5
   go_wp2_with fail
   go_ret
   exact⟨rfl,hB1.out⟩
  ·obtain rfl:M=15:=by rw[hT.out];simp[h1]
   have t:(st !=want)=true:=by simpa using h1
   clear h1
   go_enter Tryz.func108,Tryz.ntmps108
   go_wp2_with fail
   refine(C.out _).mono ?_
   rintro e w1 ⟨rfl,hb1⟩
   have hB1:=Lib.hid ((ba w _).trans (hb1.mono (ba w _).size))
   have b01:=(BoxN.new w 81 #[.int .i64 st,.int .u32 ow,.int .i64 ti,.int .u64 se,.int .u64 ep]).later hb1
   have H01:=Lib.hid b01
   clear b01
   clear hb1
   obtain⟨c00,f00,c01,f01,c02,f02,c03,f03,c04,f04,z0⟩:=H01.out.x5
   go_wp2_with fail
   go_ret
   exact⟨rfl,hB1.out⟩
 ·obtain rfl:M=E:=by rw[hT.out];simp[h]
  have t:(M==0)=false:=by simpa using h
  clear h
  go_enter Tryz.func108,Tryz.ntmps108
  go_wp2_with fail
  refine(C.out _).mono ?_
  rintro e w1 ⟨rfl,hb1⟩
  have hB1:=Lib.hid ((ba w _).trans (hb1.mono (ba w _).size))
  have b01:=(BoxN.new w 81 #[.int .i64 st,.int .u32 ow,.int .i64 ti,.int .u64 se,.int .u64 ep]).later hb1
  have H01:=Lib.hid b01
  clear b01
  clear hb1
  obtain⟨c00,f00,c01,f01,c02,f02,c03,f03,c04,f04,z0⟩:=H01.out.x5
  go_wp2_with fail
  go_ret
  exact⟨rfl,hB1.out⟩
set_option maxHeartbeats 2000000 in
theorem r16Mine_any (x:Sx) (owner:Int) (w:World):Calls Tryz.prog 113 #[sxV x,.int .u32 owner] w fun e w'=>e=.returned (.int .i64 (sxMine x owner))∧Below w.heap.size w w':=by
 have C:=Lib.hid (r16In_any x 1)
 have hT:=Lib.hid (show sxMine x owner=if sxState x 1≠0 then sxState x 1 else if x.owner≠owner then 14 else 0 from rfl)
 unfold sxV at C⊢
 generalize sxMine x owner=M at hT⊢
 generalize sxState x 1=E at C hT
 obtain⟨st,ow,ti,se,ep⟩:=x
 simp only at C hT⊢
 by_cases h:E=0
 ·subst h
  by_cases h1:ow=owner
  ·obtain rfl:M=0:=by rw[hT.out];simp[h1]
   have t:(ow !=owner)=false:=by simpa using h1
   clear h1
   go_enter Tryz.func113,Tryz.ntmps113
   go_wp2_with fail
   refine(C.out _).mono ?_
   rintro e w1 ⟨rfl,hb1⟩
   have hB1:=Lib.hid ((ba w _).trans (hb1.mono (ba w _).size))
   have b01:=(BoxN.new w 81 #[.int .i64 st,.int .u32 ow,.int .i64 ti,.int .u64 se,.int .u64 ep]).later hb1
   have H01:=Lib.hid b01
   clear b01
   clear hb1
   obtain⟨c00,f00,c01,f01,c02,f02,c03,f03,c04,f04,z0⟩:=H01.out.x5
   go_wp2_with fail
   go_ret
   exact⟨rfl,hB1.out⟩
  ·obtain rfl:M=14:=by rw[hT.out];simp[h1]
   have t:(ow !=owner)=true:=by simpa using h1
   clear h1
   go_enter Tryz.func113,Tryz.ntmps113
   go_wp2_with fail
   refine(C.out _).mono ?_
   rintro e w1 ⟨rfl,hb1⟩
   have hB1:=Lib.hid ((ba w _).trans (hb1.mono (ba w _).size))
   have b01:=(BoxN.new w 81 #[.int .i64 st,.int .u32 ow,.int .i64 ti,.int .u64 se,.int .u64 ep]).later hb1
   have H01:=Lib.hid b01
   clear b01
   clear hb1
   obtain⟨c00,f00,c01,f01,c02,f02,c03,f03,c04,f04,z0⟩:=H01.out.x5
   go_wp2_with fail
   go_ret
   exact⟨rfl,hB1.out⟩
 ·obtain rfl:M=E:=by rw[hT.out];simp[h]
  have t:(M==0)=false:=by simpa using h
  clear h
  go_enter Tryz.func113,Tryz.ntmps113
  go_wp2_with fail
  refine(C.out _).mono ?_
  rintro e w1 ⟨rfl,hb1⟩
  have hB1:=Lib.hid ((ba w _).trans (hb1.mono (ba w _).size))
  have b01:=(BoxN.new w 81 #[.int .i64 st,.int .u32 ow,.int .i64 ti,.int .u64 se,.int .u64 ep]).later hb1
  have H01:=Lib.hid b01
  clear b01
  clear hb1
  obtain⟨c00,f00,c01,f01,c02,f02,c03,f03,c04,f04,z0⟩:=H01.out.x5
  go_wp2_with fail
  go_ret
  exact⟨rfl,hB1.out⟩
set_option maxHeartbeats 2000000 in
theorem r16Free_any (x:Sx) (w:World):Calls Tryz.prog 109 #[sxV x] w fun e w'=>e=.returned (sxV (sxOpen x))∧Below w.heap.size w w':=by
 unfold sxV sxOpen
 obtain⟨st,ow,ti,se,ep⟩:=x
 simp only
 go_enter Tryz.func109,Tryz.ntmps109
 go_wp2_with fail
 have b':=((((BoxN.new (w.alloc (.cells #[.int .i64 st,.int .u32 ow,.int .i64 ti,.int .u64 se,.int .u64 ep] 81)) 81 #[.int .i64 0,.int .u32 0,.int .i64 0,.int .u64 0,.int .u64 0]).set 0 (.int .i64 0)).set 1 (.int .u32 0)).set 2 (.int .i64 0)).set 3 (.int .u64 se)|>.set 4 (.int .u64 ep)
 rw[World.size_alloc] at b'
 obtain⟨g0,-,g1,-,g2,-,g3,-,g4,-⟩:=b'.x5
 exact bodyPost_ret (v:=.agg #[.int .i64 0,.int .u32 0,.int .i64 0,.int .u64 se,.int .u64 ep]) (by simp[results,Tryz.results109,go_sem]) rfl ⟨rfl,bal (ba _ _)⟩
set_option maxHeartbeats 2000000 in
theorem r16Valid_any (x:Sx) (k:Tk) (w:World):Calls Tryz.prog 80 #[sxV x,tkV k] w fun e w'=>e=.returned (.int .i64 (sxValid x k))∧Below w.heap.size w w':=by
 have C:=Lib.hid (r16In_any x 2)
 have hT:=Lib.hid (show sxValid x k=if sxState x 2≠0 then sxState x 2 else if k.owner=x.owner∧k.serial=x.serial∧k.epoch=x.epoch then 0 else 16 from rfl)
 unfold sxV at C
 unfold sxV tkV
 generalize sxValid x k=M at hT⊢
 generalize sxState x 2=E at C hT
 obtain⟨st,ow,ti,se,ep⟩:=x
 obtain⟨ts,tw,te,tp⟩:=k
 simp only at C hT⊢
 by_cases h:E=0
 case neg=>
  obtain rfl:M=E:=by rw[hT.out];simp[h]
  have t:(M==0)=false:=by simpa using h
  clear h
  go_enter Tryz.func80,Tryz.ntmps80
  go_wp2_with fail
  refine(C.out _).mono ?_
  rintro e w1 ⟨rfl,hb1⟩
  have hB1:=Lib.hid ((bal (ba w _)).trans (hb1.mono (bal (ba w _)).size))
  have b01:=((BoxN.new w 81 #[.int .i64 st,.int .u32 ow,.int .i64 ti,.int .u64 se,.int .u64 ep]).alloc (.cells #[.int .u32 ts,.int .u32 tw,.int .u64 te,.int .u64 tp] 44)).later hb1
  have b11:=(BoxN.new (w.alloc (.cells #[.int .i64 st,.int .u32 ow,.int .i64 ti,.int .u64 se,.int .u64 ep] 81)) 44 #[.int .u32 ts,.int .u32 tw,.int .u64 te,.int .u64 tp]).later hb1
  simp only[World.size_alloc] at b11
  have H01:=Lib.hid b01
  have H11:=Lib.hid b11
  clear b01 b11
  clear hb1
  obtain⟨c00,f00,c01,f01,c02,f02,c03,f03,c04,f04,z0⟩:=H01.out.x5
  obtain⟨c10,f10,c11,f11,c12,f12,c13,f13,z1⟩:=H11.out.x4
  go_wp2_with fail
  go_ret
  exact⟨rfl,hB1.out⟩
 subst h
 by_cases h1:ow=tw
 case neg=>
  obtain rfl:M=16:=by rw[hT.out];simp;omega
  have t1:(tw !=ow)=true:=by simp;omega
  clear h1
  go_enter Tryz.func80,Tryz.ntmps80
  go_wp2_with fail
  refine(C.out _).mono ?_
  rintro e w1 ⟨rfl,hb1⟩
  have hB1:=Lib.hid ((bal (ba w _)).trans (hb1.mono (bal (ba w _)).size))
  have b01:=((BoxN.new w 81 #[.int .i64 st,.int .u32 ow,.int .i64 ti,.int .u64 se,.int .u64 ep]).alloc (.cells #[.int .u32 ts,.int .u32 tw,.int .u64 te,.int .u64 tp] 44)).later hb1
  have b11:=(BoxN.new (w.alloc (.cells #[.int .i64 st,.int .u32 ow,.int .i64 ti,.int .u64 se,.int .u64 ep] 81)) 44 #[.int .u32 ts,.int .u32 tw,.int .u64 te,.int .u64 tp]).later hb1
  simp only[World.size_alloc] at b11
  have H01:=Lib.hid b01
  have H11:=Lib.hid b11
  clear b01 b11
  clear hb1
  obtain⟨c00,f00,c01,f01,c02,f02,c03,f03,c04,f04,z0⟩:=H01.out.x5
  obtain⟨c10,f10,c11,f11,c12,f12,c13,f13,z1⟩:=H11.out.x4
  go_wp2_with fail
  go_ret
  exact⟨rfl,hB1.out⟩
 subst h1
 by_cases h2:se=te
 case neg=>
  obtain rfl:M=16:=by rw[hT.out];simp;omega
  have t2:(te !=se)=true:=by simp;omega
  clear h2
  go_enter Tryz.func80,Tryz.ntmps80
  go_wp2_with fail
  refine(C.out _).mono ?_
  rintro e w1 ⟨rfl,hb1⟩
  have hB1:=Lib.hid ((bal (ba w _)).trans (hb1.mono (bal (ba w _)).size))
  have b01:=((BoxN.new w 81 #[.int .i64 st,.int .u32 ow,.int .i64 ti,.int .u64 se,.int .u64 ep]).alloc (.cells #[.int .u32 ts,.int .u32 ow,.int .u64 te,.int .u64 tp] 44)).later hb1
  have b11:=(BoxN.new (w.alloc (.cells #[.int .i64 st,.int .u32 ow,.int .i64 ti,.int .u64 se,.int .u64 ep] 81)) 44 #[.int .u32 ts,.int .u32 ow,.int .u64 te,.int .u64 tp]).later hb1
  simp only[World.size_alloc] at b11
  have H01:=Lib.hid b01
  have H11:=Lib.hid b11
  clear b01 b11
  clear hb1
  obtain⟨c00,f00,c01,f01,c02,f02,c03,f03,c04,f04,z0⟩:=H01.out.x5
  obtain⟨c10,f10,c11,f11,c12,f12,c13,f13,z1⟩:=H11.out.x4
  go_wp2_with fail
  go_ret
  exact⟨rfl,hB1.out⟩
 subst h2
 by_cases h3:ep=tp
 case neg=>
  obtain rfl:M=16:=by rw[hT.out];simp;omega
  have t3:(tp !=ep)=true:=by simp;omega
  clear h3
  go_enter Tryz.func80,Tryz.ntmps80
  go_wp2_with fail
  refine(C.out _).mono ?_
  rintro e w1 ⟨rfl,hb1⟩
  have hB1:=Lib.hid ((bal (ba w _)).trans (hb1.mono (bal (ba w _)).size))
  have b01:=((BoxN.new w 81 #[.int .i64 st,.int .u32 ow,.int .i64 ti,.int .u64 se,.int .u64 ep]).alloc (.cells #[.int .u32 ts,.int .u32 ow,.int .u64 se,.int .u64 tp] 44)).later hb1
  have b11:=(BoxN.new (w.alloc (.cells #[.int .i64 st,.int .u32 ow,.int .i64 ti,.int .u64 se,.int .u64 ep] 81)) 44 #[.int .u32 ts,.int .u32 ow,.int .u64 se,.int .u64 tp]).later hb1
  simp only[World.size_alloc] at b11
  have H01:=Lib.hid b01
  have H11:=Lib.hid b11
  clear b01 b11
  clear hb1
  obtain⟨c00,f00,c01,f01,c02,f02,c03,f03,c04,f04,z0⟩:=H01.out.x5
  obtain⟨c10,f10,c11,f11,c12,f12,c13,f13,z1⟩:=H11.out.x4
  go_wp2_with fail
  go_ret
  exact⟨rfl,hB1.out⟩
 subst h3
 obtain rfl:M=0:=by rw[hT.out];simp
 go_enter Tryz.func80,Tryz.ntmps80
 go_wp2_with fail
 refine(C.out _).mono ?_
 rintro e w1 ⟨rfl,hb1⟩
 have hB1:=Lib.hid ((bal (ba w _)).trans (hb1.mono (bal (ba w _)).size))
 have b01:=((BoxN.new w 81 #[.int .i64 st,.int .u32 ow,.int .i64 ti,.int .u64 se,.int .u64 ep]).alloc (.cells #[.int .u32 ts,.int .u32 ow,.int .u64 se,.int .u64 ep] 44)).later hb1
 have b11:=(BoxN.new (w.alloc (.cells #[.int .i64 st,.int .u32 ow,.int .i64 ti,.int .u64 se,.int .u64 ep] 81)) 44 #[.int .u32 ts,.int .u32 ow,.int .u64 se,.int .u64 ep]).later hb1
 simp only[World.size_alloc] at b11
 have H01:=Lib.hid b01
 have H11:=Lib.hid b11
 clear b01 b11
 clear hb1
 obtain⟨c00,f00,c01,f01,c02,f02,c03,f03,c04,f04,z0⟩:=H01.out.x5
 obtain⟨c10,f10,c11,f11,c12,f12,c13,f13,z1⟩:=H11.out.x4
 go_wp2_with fail
 go_ret
 exact⟨rfl,hB1.out⟩
set_option maxHeartbeats 2000000 in
theorem r16Release_any (x:Sx) (owner:Int) (w:World):Calls Tryz.prog 75 #[sxV x,.int .u32 owner] w fun e w'=>e=.returned (.tuple #[sxV (sxRelease x owner).1,.int .i64 (sxRelease x owner).2])∧Below w.heap.size w w':=by
 have C:=Lib.hid (r16Mine_any x owner)
 have C2:=Lib.hid (r16Free_any x)
 have hT:=Lib.hid (show sxRelease x owner=if sxMine x owner≠0 then(x,sxMine x owner) else(sxOpen x,0) from rfl)
 unfold sxV at C
 unfold sxV sxOpen at C2
 unfold sxV
 generalize sxRelease x owner=M at hT⊢
 generalize sxMine x owner=E at C hT
 obtain⟨st,ow,ti,se,ep⟩:=x
 simp only[sxOpen] at C C2 hT⊢
 by_cases h:E=0
 ·subst h
  obtain rfl:M=(⟨0,0,0,se,ep⟩,0):=by rw[hT.out];simp
  clear hT
  go_enter Tryz.func75,Tryz.ntmps75
  go_wp2_with fail
  refine(C.out _).mono ?_
  rintro e w1 ⟨rfl,hb1⟩
  have hB1:=Lib.hid ((bal (ba w _)).trans (hb1.mono (bal (ba w _)).size))
  have b01:=((BoxN.new w 81 #[.int .i64 st,.int .u32 ow,.int .i64 ti,.int .u64 se,.int .u64 ep]).alloc (.cells #[.int .i64 0,.int .u32 0,.int .i64 0,.int .u64 0,.int .u64 0] 81)).later hb1
  have b11:=(BoxN.new (w.alloc (.cells #[.int .i64 st,.int .u32 ow,.int .i64 ti,.int .u64 se,.int .u64 ep] 81)) 81 #[.int .i64 0,.int .u32 0,.int .i64 0,.int .u64 0,.int .u64 0]).later hb1
  simp only[World.size_alloc] at b11
  have H01:=Lib.hid b01
  have H11:=Lib.hid b11
  clear b01 b11
  clear hb1
  obtain⟨c00,f00,c01,f01,c02,f02,c03,f03,c04,f04,z0⟩:=H01.out.x5
  obtain⟨c10,f10,c11,f11,c12,f12,c13,f13,c14,f14,z1⟩:=H11.out.x5
  go_wp2_with fail
  refine(C2.out _).mono ?_
  rintro e w2 ⟨rfl,hb2⟩
  have hB2:=Lib.hid (hB1.out.trans (hb2.mono hB1.out.size))
  have b02:=H01.out.later hb2
  have b12:=H11.out.later hb2
  have H02:=Lib.hid b02
  have H12:=Lib.hid b12
  clear b02 b12
  clear hb2
  clear c00 f00 c01 f01 c02 f02 c03 f03 c04 f04 z0 c10 f10 c11 f11 c12 f12 c13 f13 c14 f14 z1
  obtain⟨c00,f00,c01,f01,c02,f02,c03,f03,c04,f04,z0⟩:=H02.out.x5
  obtain⟨c10,f10,c11,f11,c12,f12,c13,f13,c14,f14,z1⟩:=H12.out.x5
  go_wp2_with fail
  have b':=(((((H12.out.set 0 (.int .i64 0)).set 1 (.int .u32 0)).set 2 (.int .i64 0)).set 3 (.int .u64 se)).set 4 (.int .u64 ep))
  have hB':=(((((hB2.out.setCell (p:=⟨w.heap.size+1,0,none⟩) (by dsimp only;omega) (.int .i64 0)).setCell (p:=⟨w.heap.size+1,1,none⟩) (by dsimp only;omega) (.int .u32 0)).setCell (p:=⟨w.heap.size+1,2,none⟩) (by dsimp only;omega) (.int .i64 0)).setCell (p:=⟨w.heap.size+1,3,none⟩) (by dsimp only;omega) (.int .u64 se)).setCell (p:=⟨w.heap.size+1,4,none⟩) (by dsimp only;omega) (.int .u64 ep))
  have gg:=b'.x5
  exact bodyPost_ret (v:=.tuple #[.agg #[.int .i64 0,.int .u32 0,.int .i64 0,.int .u64 se,.int .u64 ep],.int .i64 0]) (by simp[results,Tryz.results75,go_sem,gg]) rfl ⟨rfl,hB'⟩
 ·obtain rfl:M=(⟨st,ow,ti,se,ep⟩,E):=by rw[hT.out];simp[h]
  have t:(E !=0)=true:=by simpa using h
  clear hT h
  go_enter Tryz.func75,Tryz.ntmps75
  go_wp2_with fail
  refine(C.out _).mono ?_
  rintro e w1 ⟨rfl,hb1⟩
  have hB1:=Lib.hid ((bal (ba w _)).trans (hb1.mono (bal (ba w _)).size))
  have b01:=((BoxN.new w 81 #[.int .i64 st,.int .u32 ow,.int .i64 ti,.int .u64 se,.int .u64 ep]).alloc (.cells #[.int .i64 0,.int .u32 0,.int .i64 0,.int .u64 0,.int .u64 0] 81)).later hb1
  have b11:=(BoxN.new (w.alloc (.cells #[.int .i64 st,.int .u32 ow,.int .i64 ti,.int .u64 se,.int .u64 ep] 81)) 81 #[.int .i64 0,.int .u32 0,.int .i64 0,.int .u64 0,.int .u64 0]).later hb1
  simp only[World.size_alloc] at b11
  have H01:=Lib.hid b01
  have H11:=Lib.hid b11
  clear b01 b11
  clear hb1
  obtain⟨c00,f00,c01,f01,c02,f02,c03,f03,c04,f04,z0⟩:=H01.out.x5
  obtain⟨c10,f10,c11,f11,c12,f12,c13,f13,c14,f14,z1⟩:=H11.out.x5
  go_wp2_with fail
  have b':=(((((H11.out.set 0 (.int .i64 st)).set 1 (.int .u32 ow)).set 2 (.int .i64 ti)).set 3 (.int .u64 se)).set 4 (.int .u64 ep))
  have hB':=(((((hB1.out.setCell (p:=⟨w.heap.size+1,0,none⟩) (by dsimp only;omega) (.int .i64 st)).setCell (p:=⟨w.heap.size+1,1,none⟩) (by dsimp only;omega) (.int .u32 ow)).setCell (p:=⟨w.heap.size+1,2,none⟩) (by dsimp only;omega) (.int .i64 ti)).setCell (p:=⟨w.heap.size+1,3,none⟩) (by dsimp only;omega) (.int .u64 se)).setCell (p:=⟨w.heap.size+1,4,none⟩) (by dsimp only;omega) (.int .u64 ep))
  have gg:=b'.x5
  exact bodyPost_ret (v:=.tuple #[.agg #[.int .i64 st,.int .u32 ow,.int .i64 ti,.int .u64 se,.int .u64 ep],.int .i64 E]) (by simp[results,Tryz.results75,go_sem,gg]) rfl ⟨rfl,hB'⟩
set_option maxHeartbeats 2000000 in
theorem r16Refund_any (x:Sx) (k:Tk) (w:World):Calls Tryz.prog 78 #[sxV x,tkV k] w fun e w'=>e=.returned (.tuple #[sxV (sxRefund x k).1,.int .i64 (sxRefund x k).2])∧Below w.heap.size w w':=by
 have C:=Lib.hid (r16Valid_any x k)
 have C2:=Lib.hid (r16Free_any x)
 have hT:=Lib.hid (show sxRefund x k=if sxValid x k≠0 then(x,sxValid x k) else(sxOpen x,0) from rfl)
 unfold sxV tkV at C
 unfold sxV sxOpen at C2
 unfold sxV tkV
 generalize sxRefund x k=M at hT⊢
 generalize sxValid x k=E at C hT
 obtain⟨st,ow,ti,se,ep⟩:=x
 simp only[sxOpen] at C C2 hT⊢
 by_cases h:E=0
 ·subst h
  obtain rfl:M=(⟨0,0,0,se,ep⟩,0):=by rw[hT.out];simp
  clear hT
  go_enter Tryz.func78,Tryz.ntmps78
  go_wp2_with fail
  refine(C.out _).mono ?_
  rintro e w1 ⟨rfl,hb1⟩
  have hB1:=Lib.hid ((bal (bal (ba w _))).trans (hb1.mono (bal (bal (ba w _))).size))
  have b01:=(((BoxN.new w 81 #[.int .i64 st,.int .u32 ow,.int .i64 ti,.int .u64 se,.int .u64 ep]).alloc (.cells #[.int .u32 k.seat,.int .u32 k.owner,.int .u64 k.serial,.int .u64 k.epoch] 44)).alloc (.cells #[.int .i64 0,.int .u32 0,.int .i64 0,.int .u64 0,.int .u64 0] 81)).later hb1
  have b11:=((BoxN.new (w.alloc (.cells #[.int .i64 st,.int .u32 ow,.int .i64 ti,.int .u64 se,.int .u64 ep] 81)) 44 #[.int .u32 k.seat,.int .u32 k.owner,.int .u64 k.serial,.int .u64 k.epoch]).alloc (.cells #[.int .i64 0,.int .u32 0,.int .i64 0,.int .u64 0,.int .u64 0] 81)).later hb1
  simp only[World.size_alloc] at b11
  have b21:=(BoxN.new ((w.alloc (.cells #[.int .i64 st,.int .u32 ow,.int .i64 ti,.int .u64 se,.int .u64 ep] 81)).alloc (.cells #[.int .u32 k.seat,.int .u32 k.owner,.int .u64 k.serial,.int .u64 k.epoch] 44)) 81 #[.int .i64 0,.int .u32 0,.int .i64 0,.int .u64 0,.int .u64 0]).later hb1
  simp only[World.size_alloc] at b21
  have H01:=Lib.hid b01
  have H11:=Lib.hid b11
  have H21:=Lib.hid b21
  clear b01 b11 b21
  clear hb1
  obtain⟨c00,f00,c01,f01,c02,f02,c03,f03,c04,f04,z0⟩:=H01.out.x5
  obtain⟨c10,f10,c11,f11,c12,f12,c13,f13,z1⟩:=H11.out.x4
  obtain⟨c20,f20,c21,f21,c22,f22,c23,f23,c24,f24,z2⟩:=H21.out.x5
  go_wp2_with fail
  refine(C2.out _).mono ?_
  rintro e w2 ⟨rfl,hb2⟩
  have hB2:=Lib.hid (hB1.out.trans (hb2.mono hB1.out.size))
  have b02:=H01.out.later hb2
  have b12:=H11.out.later hb2
  have b22:=H21.out.later hb2
  have H02:=Lib.hid b02
  have H12:=Lib.hid b12
  have H22:=Lib.hid b22
  clear b02 b12 b22
  clear hb2
  clear c00 f00 c01 f01 c02 f02 c03 f03 c04 f04 z0 c10 f10 c11 f11 c12 f12 c13 f13 z1 c20 f20 c21 f21 c22 f22 c23 f23 c24 f24 z2
  obtain⟨c00,f00,c01,f01,c02,f02,c03,f03,c04,f04,z0⟩:=H02.out.x5
  obtain⟨c10,f10,c11,f11,c12,f12,c13,f13,z1⟩:=H12.out.x4
  obtain⟨c20,f20,c21,f21,c22,f22,c23,f23,c24,f24,z2⟩:=H22.out.x5
  go_wp2_with fail
  have b':=(((((H22.out.set 0 (.int .i64 0)).set 1 (.int .u32 0)).set 2 (.int .i64 0)).set 3 (.int .u64 se)).set 4 (.int .u64 ep))
  have hB':=(((((hB2.out.setCell (p:=⟨w.heap.size+1+1,0,none⟩) (by dsimp only;omega) (.int .i64 0)).setCell (p:=⟨w.heap.size+1+1,1,none⟩) (by dsimp only;omega) (.int .u32 0)).setCell (p:=⟨w.heap.size+1+1,2,none⟩) (by dsimp only;omega) (.int .i64 0)).setCell (p:=⟨w.heap.size+1+1,3,none⟩) (by dsimp only;omega) (.int .u64 se)).setCell (p:=⟨w.heap.size+1+1,4,none⟩) (by dsimp only;omega) (.int .u64 ep))
  have gg:=b'.x5
  exact bodyPost_ret (v:=.tuple #[.agg #[.int .i64 0,.int .u32 0,.int .i64 0,.int .u64 se,.int .u64 ep],.int .i64 0]) (by simp[results,Tryz.results78,go_sem,gg]) rfl ⟨rfl,hB'⟩
 ·obtain rfl:M=(⟨st,ow,ti,se,ep⟩,E):=by rw[hT.out];simp[h]
  have t:(E !=0)=true:=by simpa using h
  clear hT h
  go_enter Tryz.func78,Tryz.ntmps78
  go_wp2_with fail
  refine(C.out _).mono ?_
  rintro e w1 ⟨rfl,hb1⟩
  have hB1:=Lib.hid ((bal (bal (ba w _))).trans (hb1.mono (bal (bal (ba w _))).size))
  have b01:=(((BoxN.new w 81 #[.int .i64 st,.int .u32 ow,.int .i64 ti,.int .u64 se,.int .u64 ep]).alloc (.cells #[.int .u32 k.seat,.int .u32 k.owner,.int .u64 k.serial,.int .u64 k.epoch] 44)).alloc (.cells #[.int .i64 0,.int .u32 0,.int .i64 0,.int .u64 0,.int .u64 0] 81)).later hb1
  have b11:=((BoxN.new (w.alloc (.cells #[.int .i64 st,.int .u32 ow,.int .i64 ti,.int .u64 se,.int .u64 ep] 81)) 44 #[.int .u32 k.seat,.int .u32 k.owner,.int .u64 k.serial,.int .u64 k.epoch]).alloc (.cells #[.int .i64 0,.int .u32 0,.int .i64 0,.int .u64 0,.int .u64 0] 81)).later hb1
  simp only[World.size_alloc] at b11
  have b21:=(BoxN.new ((w.alloc (.cells #[.int .i64 st,.int .u32 ow,.int .i64 ti,.int .u64 se,.int .u64 ep] 81)).alloc (.cells #[.int .u32 k.seat,.int .u32 k.owner,.int .u64 k.serial,.int .u64 k.epoch] 44)) 81 #[.int .i64 0,.int .u32 0,.int .i64 0,.int .u64 0,.int .u64 0]).later hb1
  simp only[World.size_alloc] at b21
  have H01:=Lib.hid b01
  have H11:=Lib.hid b11
  have H21:=Lib.hid b21
  clear b01 b11 b21
  clear hb1
  obtain⟨c00,f00,c01,f01,c02,f02,c03,f03,c04,f04,z0⟩:=H01.out.x5
  obtain⟨c10,f10,c11,f11,c12,f12,c13,f13,z1⟩:=H11.out.x4
  obtain⟨c20,f20,c21,f21,c22,f22,c23,f23,c24,f24,z2⟩:=H21.out.x5
  go_wp2_with fail
  have b':=(((((H21.out.set 0 (.int .i64 st)).set 1 (.int .u32 ow)).set 2 (.int .i64 ti)).set 3 (.int .u64 se)).set 4 (.int .u64 ep))
  have hB':=(((((hB1.out.setCell (p:=⟨w.heap.size+1+1,0,none⟩) (by dsimp only;omega) (.int .i64 st)).setCell (p:=⟨w.heap.size+1+1,1,none⟩) (by dsimp only;omega) (.int .u32 ow)).setCell (p:=⟨w.heap.size+1+1,2,none⟩) (by dsimp only;omega) (.int .i64 ti)).setCell (p:=⟨w.heap.size+1+1,3,none⟩) (by dsimp only;omega) (.int .u64 se)).setCell (p:=⟨w.heap.size+1+1,4,none⟩) (by dsimp only;omega) (.int .u64 ep))
  have gg:=b'.x5
  exact bodyPost_ret (v:=.tuple #[.agg #[.int .i64 st,.int .u32 ow,.int .i64 ti,.int .u64 se,.int .u64 ep],.int .i64 E]) (by simp[results,Tryz.results78,go_sem,gg]) rfl ⟨rfl,hB'⟩
set_option maxHeartbeats 2000000 in
theorem r16Buy_any (x:Sx) (owner:Int) (w:World) (hx:SxOk x):Calls Tryz.prog 76 #[sxV x,.int .u32 owner] w fun e w'=>e=.returned (.tuple #[sxV (sxBuy x owner).1,.int .i64 (sxBuy x owner).2])∧Below w.heap.size w w':=by
 have C:=Lib.hid (r16Mine_any x owner)
 have hU:U64 x.serial:=hx.2.2.2.1
 unfold U64 at hU
 have hT:=Lib.hid (show sxBuy x owner=if sxMine x owner≠0 then(x,sxMine x owner) else if x.serial=18446744073709551615 then(x,17) else(⟨2,owner,0,x.serial+1,x.epoch⟩,0) from rfl)
 unfold sxV at C
 unfold sxV
 generalize sxBuy x owner=M at hT⊢
 generalize sxMine x owner=E at C hT
 clear hx
 obtain⟨st,ow,ti,se,ep⟩:=x
 simp only at C hT hU⊢
 by_cases h:E=0
 case neg=>
  obtain rfl:M=(⟨st,ow,ti,se,ep⟩,E):=by rw[hT.out];simp[h]
  have t:(E==0)=false:=by simpa using h
  have t':(E !=0)=true:=by simpa using h
  clear hT h
  go_enter Tryz.func76,Tryz.ntmps76
  go_wp2_with fail
  refine(C.out _).mono ?_
  rintro e w1 ⟨rfl,hb1⟩
  have hB1:=Lib.hid ((bal (ba w _)).trans (hb1.mono (bal (ba w _)).size))
  have b01:=((BoxN.new w 81 #[.int .i64 st,.int .u32 ow,.int .i64 ti,.int .u64 se,.int .u64 ep]).alloc (.cells #[.int .i64 0,.int .u32 0,.int .i64 0,.int .u64 0,.int .u64 0] 81)).later hb1
  have b11:=(BoxN.new (w.alloc (.cells #[.int .i64 st,.int .u32 ow,.int .i64 ti,.int .u64 se,.int .u64 ep] 81)) 81 #[.int .i64 0,.int .u32 0,.int .i64 0,.int .u64 0,.int .u64 0]).later hb1
  simp only[World.size_alloc] at b11
  have H01:=Lib.hid b01
  have H11:=Lib.hid b11
  clear b01 b11
  clear hb1
  obtain⟨c00,f00,c01,f01,c02,f02,c03,f03,c04,f04,z0⟩:=H01.out.x5
  obtain⟨c10,f10,c11,f11,c12,f12,c13,f13,c14,f14,z1⟩:=H11.out.x5
  go_wp2_with fail
  have b':=(((((H11.out.set 0 (.int .i64 st)).set 1 (.int .u32 ow)).set 2 (.int .i64 ti)).set 3 (.int .u64 se)).set 4 (.int .u64 ep))
  have hB':=(((((hB1.out.setCell (p:=⟨w.heap.size+1,0,none⟩) (by dsimp only;omega) (.int .i64 st)).setCell (p:=⟨w.heap.size+1,1,none⟩) (by dsimp only;omega) (.int .u32 ow)).setCell (p:=⟨w.heap.size+1,2,none⟩) (by dsimp only;omega) (.int .i64 ti)).setCell (p:=⟨w.heap.size+1,3,none⟩) (by dsimp only;omega) (.int .u64 se)).setCell (p:=⟨w.heap.size+1,4,none⟩) (by dsimp only;omega) (.int .u64 ep))
  have gg:=b'.x5
  exact bodyPost_ret (v:=.tuple #[.agg #[.int .i64 st,.int .u32 ow,.int .i64 ti,.int .u64 se,.int .u64 ep],.int .i64 E]) (by simp[results,Tryz.results76,go_sem,gg]) rfl ⟨rfl,hB'⟩
 subst h
 by_cases h:se=18446744073709551615
 ·obtain rfl:M=(⟨st,ow,ti,se,ep⟩,17):=by rw[hT.out];simp[h]
  have t:(se==18446744073709551615)=true:=by simpa using h
  clear hT h
  go_enter Tryz.func76,Tryz.ntmps76
  go_wp2_with fail
  refine(C.out _).mono ?_
  rintro e w1 ⟨rfl,hb1⟩
  have hB1:=Lib.hid ((bal (ba w _)).trans (hb1.mono (bal (ba w _)).size))
  have b01:=((BoxN.new w 81 #[.int .i64 st,.int .u32 ow,.int .i64 ti,.int .u64 se,.int .u64 ep]).alloc (.cells #[.int .i64 0,.int .u32 0,.int .i64 0,.int .u64 0,.int .u64 0] 81)).later hb1
  have b11:=(BoxN.new (w.alloc (.cells #[.int .i64 st,.int .u32 ow,.int .i64 ti,.int .u64 se,.int .u64 ep] 81)) 81 #[.int .i64 0,.int .u32 0,.int .i64 0,.int .u64 0,.int .u64 0]).later hb1
  simp only[World.size_alloc] at b11
  have H01:=Lib.hid b01
  have H11:=Lib.hid b11
  clear b01 b11
  clear hb1
  obtain⟨c00,f00,c01,f01,c02,f02,c03,f03,c04,f04,z0⟩:=H01.out.x5
  obtain⟨c10,f10,c11,f11,c12,f12,c13,f13,c14,f14,z1⟩:=H11.out.x5
  go_wp2_with fail
  have b':=(((((H11.out.set 0 (.int .i64 st)).set 1 (.int .u32 ow)).set 2 (.int .i64 ti)).set 3 (.int .u64 se)).set 4 (.int .u64 ep))
  have hB':=(((((hB1.out.setCell (p:=⟨w.heap.size+1,0,none⟩) (by dsimp only;omega) (.int .i64 st)).setCell (p:=⟨w.heap.size+1,1,none⟩) (by dsimp only;omega) (.int .u32 ow)).setCell (p:=⟨w.heap.size+1,2,none⟩) (by dsimp only;omega) (.int .i64 ti)).setCell (p:=⟨w.heap.size+1,3,none⟩) (by dsimp only;omega) (.int .u64 se)).setCell (p:=⟨w.heap.size+1,4,none⟩) (by dsimp only;omega) (.int .u64 ep))
  have gg:=b'.x5
  exact bodyPost_ret (v:=.tuple #[.agg #[.int .i64 st,.int .u32 ow,.int .i64 ti,.int .u64 se,.int .u64 ep],.int .i64 17]) (by simp[results,Tryz.results76,go_sem,gg]) rfl ⟨rfl,hB'⟩
 ·obtain rfl:M=(⟨2,owner,0,se+1,ep⟩,0):=by rw[hT.out];simp[h]
  have t:(se==18446744073709551615)=false:=by simpa using h
  have hW:IntKind.u64.wrap (se+1)=se+1:=IntWalk.u64_in _ (by omega)
  clear hT h
  go_enter Tryz.func76,Tryz.ntmps76
  go_wp2_with fail
  refine(C.out _).mono ?_
  rintro e w1 ⟨rfl,hb1⟩
  have hB1:=Lib.hid ((bal (ba w _)).trans (hb1.mono (bal (ba w _)).size))
  have b01:=((BoxN.new w 81 #[.int .i64 st,.int .u32 ow,.int .i64 ti,.int .u64 se,.int .u64 ep]).alloc (.cells #[.int .i64 0,.int .u32 0,.int .i64 0,.int .u64 0,.int .u64 0] 81)).later hb1
  have b11:=(BoxN.new (w.alloc (.cells #[.int .i64 st,.int .u32 ow,.int .i64 ti,.int .u64 se,.int .u64 ep] 81)) 81 #[.int .i64 0,.int .u32 0,.int .i64 0,.int .u64 0,.int .u64 0]).later hb1
  simp only[World.size_alloc] at b11
  have H01:=Lib.hid b01
  have H11:=Lib.hid b11
  clear b01 b11
  clear hb1
  obtain⟨c00,f00,c01,f01,c02,f02,c03,f03,c04,f04,z0⟩:=H01.out.x5
  obtain⟨c10,f10,c11,f11,c12,f12,c13,f13,c14,f14,z1⟩:=H11.out.x5
  go_wp2_with fail
  have b':=(((((H11.out.set 0 (.int .i64 2)).set 1 (.int .u32 owner)).set 2 (.int .i64 0)).set 3 (.int .u64 (se+1))).set 4 (.int .u64 ep))
  have hB':=(((((hB1.out.setCell (p:=⟨w.heap.size+1,0,none⟩) (by dsimp only;omega) (.int .i64 2)).setCell (p:=⟨w.heap.size+1,1,none⟩) (by dsimp only;omega) (.int .u32 owner)).setCell (p:=⟨w.heap.size+1,2,none⟩) (by dsimp only;omega) (.int .i64 0)).setCell (p:=⟨w.heap.size+1,3,none⟩) (by dsimp only;omega) (.int .u64 (se+1))).setCell (p:=⟨w.heap.size+1,4,none⟩) (by dsimp only;omega) (.int .u64 ep))
  have gg:=b'.x5
  exact bodyPost_ret (v:=.tuple #[.agg #[.int .i64 2,.int .u32 owner,.int .i64 0,.int .u64 (se+1),.int .u64 ep],.int .i64 0]) (by simp[results,Tryz.results76,go_sem,gg]) rfl ⟨rfl,hB'⟩
theorem sxState_two {x:Sx} (h:sxState x 2=0):x.state=2∧x.till=0:=by
 unfold sxState at h
 split at h
 ·rename_i h1;exact absurd h h1
 rename_i h1
 have h1:=Decidable.not_not.1 h1
 split at h
 ·exact absurd h (by decide)
 rename_i h2
 have h2:=Decidable.not_not.1 h2
 refine⟨h2, ?_⟩
 unfold sxCheck at h1
 rw[h2] at h1
 simp at h1
 exact h1
theorem sxValid_two {x:Sx} {k:Tk} (h:sxValid x k=0):x.state=2∧x.till=0:=by
 unfold sxValid at h
 split at h
 ·rename_i h1;exact absurd h h1
 ·rename_i h1;exact sxState_two (Decidable.not_not.1 h1)
set_option maxHeartbeats 2000000 in
theorem r16Transfer_any (x:Sx) (k:Tk) (too:Int) (w:World) (hx:SxOk x):Calls Tryz.prog 77 #[sxV x,tkV k,.int .u32 too] w fun e w'=>e=.returned (.tuple #[sxV (sxTransfer x k too).1,.int .i64 (sxTransfer x k too).2])∧Below w.heap.size w w':=by
 have C:=Lib.hid (r16Valid_any x k)
 have hU:U64 x.serial:=hx.2.2.2.1
 have h2:= @sxValid_two x k
 unfold U64 at hU
 have hT:=Lib.hid (show sxTransfer x k too=if sxValid x k≠0 then(x,sxValid x k) else if x.serial=18446744073709551615 then(x,17) else(⟨2,too,0,x.serial+1,x.epoch⟩,0) from rfl)
 unfold sxV tkV at C
 unfold sxV tkV
 generalize sxTransfer x k too=M at hT⊢
 generalize sxValid x k=E at C hT h2
 clear hx
 obtain⟨st,ow,ti,se,ep⟩:=x
 simp only at C hT hU h2⊢
 by_cases h:E=0
 case neg=>
  obtain rfl:M=(⟨st,ow,ti,se,ep⟩,E):=by rw[hT.out];simp[h]
  have t:(E==0)=false:=by simpa using h
  have t':(E !=0)=true:=by simpa using h
  clear hT h h2
  go_enter Tryz.func77,Tryz.ntmps77
  go_wp2_with fail
  refine(C.out _).mono ?_
  rintro e w1 ⟨rfl,hb1⟩
  have hB1:=Lib.hid ((bal (bal (ba w _))).trans (hb1.mono (bal (bal (ba w _))).size))
  have b01:=(((BoxN.new w 81 #[.int .i64 st,.int .u32 ow,.int .i64 ti,.int .u64 se,.int .u64 ep]).alloc (.cells #[.int .u32 k.seat,.int .u32 k.owner,.int .u64 k.serial,.int .u64 k.epoch] 44)).alloc (.cells #[.int .i64 0,.int .u32 0,.int .i64 0,.int .u64 0,.int .u64 0] 81)).later hb1
  have b11:=((BoxN.new (w.alloc (.cells #[.int .i64 st,.int .u32 ow,.int .i64 ti,.int .u64 se,.int .u64 ep] 81)) 44 #[.int .u32 k.seat,.int .u32 k.owner,.int .u64 k.serial,.int .u64 k.epoch]).alloc (.cells #[.int .i64 0,.int .u32 0,.int .i64 0,.int .u64 0,.int .u64 0] 81)).later hb1
  simp only[World.size_alloc] at b11
  have b21:=(BoxN.new ((w.alloc (.cells #[.int .i64 st,.int .u32 ow,.int .i64 ti,.int .u64 se,.int .u64 ep] 81)).alloc (.cells #[.int .u32 k.seat,.int .u32 k.owner,.int .u64 k.serial,.int .u64 k.epoch] 44)) 81 #[.int .i64 0,.int .u32 0,.int .i64 0,.int .u64 0,.int .u64 0]).later hb1
  simp only[World.size_alloc] at b21
  have H01:=Lib.hid b01
  have H11:=Lib.hid b11
  have H21:=Lib.hid b21
  clear b01 b11 b21
  clear hb1
  obtain⟨c00,f00,c01,f01,c02,f02,c03,f03,c04,f04,z0⟩:=H01.out.x5
  obtain⟨c10,f10,c11,f11,c12,f12,c13,f13,z1⟩:=H11.out.x4
  obtain⟨c20,f20,c21,f21,c22,f22,c23,f23,c24,f24,z2⟩:=H21.out.x5
  go_wp2_with fail
  have b':=(((((H21.out.set 0 (.int .i64 st)).set 1 (.int .u32 ow)).set 2 (.int .i64 ti)).set 3 (.int .u64 se)).set 4 (.int .u64 ep))
  have hB':=(((((hB1.out.setCell (p:=⟨w.heap.size+1+1,0,none⟩) (by dsimp only;omega) (.int .i64 st)).setCell (p:=⟨w.heap.size+1+1,1,none⟩) (by dsimp only;omega) (.int .u32 ow)).setCell (p:=⟨w.heap.size+1+1,2,none⟩) (by dsimp only;omega) (.int .i64 ti)).setCell (p:=⟨w.heap.size+1+1,3,none⟩) (by dsimp only;omega) (.int .u64 se)).setCell (p:=⟨w.heap.size+1+1,4,none⟩) (by dsimp only;omega) (.int .u64 ep))
  have gg:=b'.x5
  exact bodyPost_ret (v:=.tuple #[.agg #[.int .i64 st,.int .u32 ow,.int .i64 ti,.int .u64 se,.int .u64 ep],.int .i64 E]) (by simp[results,Tryz.results77,go_sem,gg]) rfl ⟨rfl,hB'⟩
 obtain⟨rfl,rfl⟩:=h2 h
 subst h
 clear h2
 by_cases h:se=18446744073709551615
 ·obtain rfl:M=(⟨2,ow,0,se,ep⟩,17):=by rw[hT.out];simp[h]
  have t:(se==18446744073709551615)=true:=by simpa using h
  clear hT h
  go_enter Tryz.func77,Tryz.ntmps77
  go_wp2_with fail
  refine(C.out _).mono ?_
  rintro e w1 ⟨rfl,hb1⟩
  have hB1:=Lib.hid ((bal (bal (ba w _))).trans (hb1.mono (bal (bal (ba w _))).size))
  have b01:=(((BoxN.new w 81 #[.int .i64 2,.int .u32 ow,.int .i64 0,.int .u64 se,.int .u64 ep]).alloc (.cells #[.int .u32 k.seat,.int .u32 k.owner,.int .u64 k.serial,.int .u64 k.epoch] 44)).alloc (.cells #[.int .i64 0,.int .u32 0,.int .i64 0,.int .u64 0,.int .u64 0] 81)).later hb1
  have b11:=((BoxN.new (w.alloc (.cells #[.int .i64 2,.int .u32 ow,.int .i64 0,.int .u64 se,.int .u64 ep] 81)) 44 #[.int .u32 k.seat,.int .u32 k.owner,.int .u64 k.serial,.int .u64 k.epoch]).alloc (.cells #[.int .i64 0,.int .u32 0,.int .i64 0,.int .u64 0,.int .u64 0] 81)).later hb1
  simp only[World.size_alloc] at b11
  have b21:=(BoxN.new ((w.alloc (.cells #[.int .i64 2,.int .u32 ow,.int .i64 0,.int .u64 se,.int .u64 ep] 81)).alloc (.cells #[.int .u32 k.seat,.int .u32 k.owner,.int .u64 k.serial,.int .u64 k.epoch] 44)) 81 #[.int .i64 0,.int .u32 0,.int .i64 0,.int .u64 0,.int .u64 0]).later hb1
  simp only[World.size_alloc] at b21
  have H01:=Lib.hid b01
  have H11:=Lib.hid b11
  have H21:=Lib.hid b21
  clear b01 b11 b21
  clear hb1
  obtain⟨c00,f00,c01,f01,c02,f02,c03,f03,c04,f04,z0⟩:=H01.out.x5
  obtain⟨c10,f10,c11,f11,c12,f12,c13,f13,z1⟩:=H11.out.x4
  obtain⟨c20,f20,c21,f21,c22,f22,c23,f23,c24,f24,z2⟩:=H21.out.x5
  go_wp2_with fail
  have b':=(((((H21.out.set 0 (.int .i64 2)).set 1 (.int .u32 ow)).set 2 (.int .i64 0)).set 3 (.int .u64 se)).set 4 (.int .u64 ep))
  have hB':=(((((hB1.out.setCell (p:=⟨w.heap.size+1+1,0,none⟩) (by dsimp only;omega) (.int .i64 2)).setCell (p:=⟨w.heap.size+1+1,1,none⟩) (by dsimp only;omega) (.int .u32 ow)).setCell (p:=⟨w.heap.size+1+1,2,none⟩) (by dsimp only;omega) (.int .i64 0)).setCell (p:=⟨w.heap.size+1+1,3,none⟩) (by dsimp only;omega) (.int .u64 se)).setCell (p:=⟨w.heap.size+1+1,4,none⟩) (by dsimp only;omega) (.int .u64 ep))
  have gg:=b'.x5
  exact bodyPost_ret (v:=.tuple #[.agg #[.int .i64 2,.int .u32 ow,.int .i64 0,.int .u64 se,.int .u64 ep],.int .i64 17]) (by simp[results,Tryz.results77,go_sem,gg]) rfl ⟨rfl,hB'⟩
 ·obtain rfl:M=(⟨2,too,0,se+1,ep⟩,0):=by rw[hT.out];simp[h]
  have t:(se==18446744073709551615)=false:=by simpa using h
  have hW:IntKind.u64.wrap (se+1)=se+1:=IntWalk.u64_in _ (by omega)
  clear hT h
  go_enter Tryz.func77,Tryz.ntmps77
  go_wp2_with fail
  refine(C.out _).mono ?_
  rintro e w1 ⟨rfl,hb1⟩
  have hB1:=Lib.hid ((bal (bal (ba w _))).trans (hb1.mono (bal (bal (ba w _))).size))
  have b01:=(((BoxN.new w 81 #[.int .i64 2,.int .u32 ow,.int .i64 0,.int .u64 se,.int .u64 ep]).alloc (.cells #[.int .u32 k.seat,.int .u32 k.owner,.int .u64 k.serial,.int .u64 k.epoch] 44)).alloc (.cells #[.int .i64 0,.int .u32 0,.int .i64 0,.int .u64 0,.int .u64 0] 81)).later hb1
  have b11:=((BoxN.new (w.alloc (.cells #[.int .i64 2,.int .u32 ow,.int .i64 0,.int .u64 se,.int .u64 ep] 81)) 44 #[.int .u32 k.seat,.int .u32 k.owner,.int .u64 k.serial,.int .u64 k.epoch]).alloc (.cells #[.int .i64 0,.int .u32 0,.int .i64 0,.int .u64 0,.int .u64 0] 81)).later hb1
  simp only[World.size_alloc] at b11
  have b21:=(BoxN.new ((w.alloc (.cells #[.int .i64 2,.int .u32 ow,.int .i64 0,.int .u64 se,.int .u64 ep] 81)).alloc (.cells #[.int .u32 k.seat,.int .u32 k.owner,.int .u64 k.serial,.int .u64 k.epoch] 44)) 81 #[.int .i64 0,.int .u32 0,.int .i64 0,.int .u64 0,.int .u64 0]).later hb1
  simp only[World.size_alloc] at b21
  have H01:=Lib.hid b01
  have H11:=Lib.hid b11
  have H21:=Lib.hid b21
  clear b01 b11 b21
  clear hb1
  obtain⟨c00,f00,c01,f01,c02,f02,c03,f03,c04,f04,z0⟩:=H01.out.x5
  obtain⟨c10,f10,c11,f11,c12,f12,c13,f13,z1⟩:=H11.out.x4
  obtain⟨c20,f20,c21,f21,c22,f22,c23,f23,c24,f24,z2⟩:=H21.out.x5
  go_wp2_with fail
  have b':=(((((((H21.out.other (B':=w.heap.size) (i:=1) (by omega) (.int .u32 too)).other (B':=w.heap.size) (i:=3) (by omega) (.int .u64 (se+1))).set 0 (.int .i64 2)).set 1 (.int .u32 too)).set 2 (.int .i64 0)).set 3 (.int .u64 (se+1))).set 4 (.int .u64 ep))
  have hB':=(((((((hB1.out.setCell (p:=⟨w.heap.size,1,none⟩) (by dsimp only;omega) (.int .u32 too)).setCell (p:=⟨w.heap.size,3,none⟩) (by dsimp only;omega) (.int .u64 (se+1))).setCell (p:=⟨w.heap.size+1+1,0,none⟩) (by dsimp only;omega) (.int .i64 2)).setCell (p:=⟨w.heap.size+1+1,1,none⟩) (by dsimp only;omega) (.int .u32 too)).setCell (p:=⟨w.heap.size+1+1,2,none⟩) (by dsimp only;omega) (.int .i64 0)).setCell (p:=⟨w.heap.size+1+1,3,none⟩) (by dsimp only;omega) (.int .u64 (se+1))).setCell (p:=⟨w.heap.size+1+1,4,none⟩) (by dsimp only;omega) (.int .u64 ep))
  have gg:=b'.x5
  exact bodyPost_ret (v:=.tuple #[.agg #[.int .i64 2,.int .u32 too,.int .i64 0,.int .u64 (se+1),.int .u64 ep],.int .i64 0]) (by simp[results,Tryz.results77,go_sem,gg]) rfl ⟨rfl,hB'⟩
set_option maxHeartbeats 2000000 in
theorem r16Revoke_any (x:Sx) (w:World) (hx:SxOk x):Calls Tryz.prog 79 #[sxV x] w fun e w'=>e=.returned (.tuple #[sxV (sxRevoke x).1,.int .i64 (sxRevoke x).2])∧Below w.heap.size w w':=by
 have C:=Lib.hid (r16In_any x 2)
 have C2:=Lib.hid (r16Free_any x)
 have hU:U64 x.epoch:=hx.2.2.2.2
 unfold U64 at hU
 have hT:=Lib.hid (show sxRevoke x=if sxState x 2≠0 then(x,sxState x 2) else if x.epoch=18446744073709551615 then(x,17) else(⟨0,0,0,x.serial,x.epoch+1⟩,0) from rfl)
 unfold sxV at C
 unfold sxV sxOpen at C2
 unfold sxV
 generalize sxRevoke x=M at hT⊢
 generalize sxState x 2=E at C hT
 clear hx
 obtain⟨st,ow,ti,se,ep⟩:=x
 simp only at C C2 hT hU⊢
 by_cases h:E=0
 case neg=>
  obtain rfl:M=(⟨st,ow,ti,se,ep⟩,E):=by rw[hT.out];simp[h]
  have t:(E==0)=false:=by simpa using h
  have t':(E !=0)=true:=by simpa using h
  clear hT h
  go_enter Tryz.func79,Tryz.ntmps79
  go_wp2_with fail
  refine(C.out _).mono ?_
  rintro e w1 ⟨rfl,hb1⟩
  have hB1:=Lib.hid ((bal (ba w _)).trans (hb1.mono (bal (ba w _)).size))
  have b01:=((BoxN.new w 81 #[.int .i64 st,.int .u32 ow,.int .i64 ti,.int .u64 se,.int .u64 ep]).alloc (.cells #[.int .i64 0,.int .u32 0,.int .i64 0,.int .u64 0,.int .u64 0] 81)).later hb1
  have b11:=(BoxN.new (w.alloc (.cells #[.int .i64 st,.int .u32 ow,.int .i64 ti,.int .u64 se,.int .u64 ep] 81)) 81 #[.int .i64 0,.int .u32 0,.int .i64 0,.int .u64 0,.int .u64 0]).later hb1
  simp only[World.size_alloc] at b11
  have H01:=Lib.hid b01
  have H11:=Lib.hid b11
  clear b01 b11
  clear hb1
  obtain⟨c00,f00,c01,f01,c02,f02,c03,f03,c04,f04,z0⟩:=H01.out.x5
  obtain⟨c10,f10,c11,f11,c12,f12,c13,f13,c14,f14,z1⟩:=H11.out.x5
  go_wp2_with fail
  have b':=(((((H11.out.set 0 (.int .i64 st)).set 1 (.int .u32 ow)).set 2 (.int .i64 ti)).set 3 (.int .u64 se)).set 4 (.int .u64 ep))
  have hB':=(((((hB1.out.setCell (p:=⟨w.heap.size+1,0,none⟩) (by dsimp only;omega) (.int .i64 st)).setCell (p:=⟨w.heap.size+1,1,none⟩) (by dsimp only;omega) (.int .u32 ow)).setCell (p:=⟨w.heap.size+1,2,none⟩) (by dsimp only;omega) (.int .i64 ti)).setCell (p:=⟨w.heap.size+1,3,none⟩) (by dsimp only;omega) (.int .u64 se)).setCell (p:=⟨w.heap.size+1,4,none⟩) (by dsimp only;omega) (.int .u64 ep))
  have gg:=b'.x5
  exact bodyPost_ret (v:=.tuple #[.agg #[.int .i64 st,.int .u32 ow,.int .i64 ti,.int .u64 se,.int .u64 ep],.int .i64 E]) (by simp[results,Tryz.results79,go_sem,gg]) rfl ⟨rfl,hB'⟩
 subst h
 by_cases h:ep=18446744073709551615
 ·obtain rfl:M=(⟨st,ow,ti,se,ep⟩,17):=by rw[hT.out];simp[h]
  have t:(ep==18446744073709551615)=true:=by simpa using h
  clear hT h
  go_enter Tryz.func79,Tryz.ntmps79
  go_wp2_with fail
  refine(C.out _).mono ?_
  rintro e w1 ⟨rfl,hb1⟩
  have hB1:=Lib.hid ((bal (ba w _)).trans (hb1.mono (bal (ba w _)).size))
  have b01:=((BoxN.new w 81 #[.int .i64 st,.int .u32 ow,.int .i64 ti,.int .u64 se,.int .u64 ep]).alloc (.cells #[.int .i64 0,.int .u32 0,.int .i64 0,.int .u64 0,.int .u64 0] 81)).later hb1
  have b11:=(BoxN.new (w.alloc (.cells #[.int .i64 st,.int .u32 ow,.int .i64 ti,.int .u64 se,.int .u64 ep] 81)) 81 #[.int .i64 0,.int .u32 0,.int .i64 0,.int .u64 0,.int .u64 0]).later hb1
  simp only[World.size_alloc] at b11
  have H01:=Lib.hid b01
  have H11:=Lib.hid b11
  clear b01 b11
  clear hb1
  obtain⟨c00,f00,c01,f01,c02,f02,c03,f03,c04,f04,z0⟩:=H01.out.x5
  obtain⟨c10,f10,c11,f11,c12,f12,c13,f13,c14,f14,z1⟩:=H11.out.x5
  go_wp2_with fail
  have b':=(((((H11.out.set 0 (.int .i64 st)).set 1 (.int .u32 ow)).set 2 (.int .i64 ti)).set 3 (.int .u64 se)).set 4 (.int .u64 ep))
  have hB':=(((((hB1.out.setCell (p:=⟨w.heap.size+1,0,none⟩) (by dsimp only;omega) (.int .i64 st)).setCell (p:=⟨w.heap.size+1,1,none⟩) (by dsimp only;omega) (.int .u32 ow)).setCell (p:=⟨w.heap.size+1,2,none⟩) (by dsimp only;omega) (.int .i64 ti)).setCell (p:=⟨w.heap.size+1,3,none⟩) (by dsimp only;omega) (.int .u64 se)).setCell (p:=⟨w.heap.size+1,4,none⟩) (by dsimp only;omega) (.int .u64 ep))
  have gg:=b'.x5
  exact bodyPost_ret (v:=.tuple #[.agg #[.int .i64 st,.int .u32 ow,.int .i64 ti,.int .u64 se,.int .u64 ep],.int .i64 17]) (by simp[results,Tryz.results79,go_sem,gg]) rfl ⟨rfl,hB'⟩
 ·obtain rfl:M=(⟨0,0,0,se,ep+1⟩,0):=by rw[hT.out];simp[h]
  have t:(ep==18446744073709551615)=false:=by simpa using h
  have hW:IntKind.u64.wrap (ep+1)=ep+1:=IntWalk.u64_in _ (by omega)
  clear hT h
  go_enter Tryz.func79,Tryz.ntmps79
  go_wp2_with fail
  refine(C.out _).mono ?_
  rintro e w1 ⟨rfl,hb1⟩
  have hB1:=Lib.hid ((bal (ba w _)).trans (hb1.mono (bal (ba w _)).size))
  have b01:=((BoxN.new w 81 #[.int .i64 st,.int .u32 ow,.int .i64 ti,.int .u64 se,.int .u64 ep]).alloc (.cells #[.int .i64 0,.int .u32 0,.int .i64 0,.int .u64 0,.int .u64 0] 81)).later hb1
  have b11:=(BoxN.new (w.alloc (.cells #[.int .i64 st,.int .u32 ow,.int .i64 ti,.int .u64 se,.int .u64 ep] 81)) 81 #[.int .i64 0,.int .u32 0,.int .i64 0,.int .u64 0,.int .u64 0]).later hb1
  simp only[World.size_alloc] at b11
  have H01:=Lib.hid b01
  have H11:=Lib.hid b11
  clear b01 b11
  clear hb1
  obtain⟨c00,f00,c01,f01,c02,f02,c03,f03,c04,f04,z0⟩:=H01.out.x5
  obtain⟨c10,f10,c11,f11,c12,f12,c13,f13,c14,f14,z1⟩:=H11.out.x5
  go_wp2_with fail
  refine(C2.out _).mono ?_
  rintro e w2 ⟨rfl,hb2⟩
  have hB2:=Lib.hid (hB1.out.trans (hb2.mono hB1.out.size))
  have b02:=H01.out.later hb2
  have b12:=H11.out.later hb2
  have H02:=Lib.hid b02
  have H12:=Lib.hid b12
  clear b02 b12
  clear hb2
  clear c00 f00 c01 f01 c02 f02 c03 f03 c04 f04 z0 c10 f10 c11 f11 c12 f12 c13 f13 c14 f14 z1
  obtain⟨c00,f00,c01,f01,c02,f02,c03,f03,c04,f04,z0⟩:=H02.out.x5
  obtain⟨c10,f10,c11,f11,c12,f12,c13,f13,c14,f14,z1⟩:=H12.out.x5
  go_upto_region 7 with fail
  have b0:=((((H02.out.set 0 (.int .i64 0)).set 1 (.int .u32 0)).set 2 (.int .i64 0)).set 3 (.int .u64 se)).set 4 (.int .u64 ep)
  have b1:=((((H12.out.other (B':=w.heap.size) (i:=0) (by omega) (.int .i64 0)).other (B':=w.heap.size) (i:=1) (by omega) (.int .u32 0)).other (B':=w.heap.size) (i:=2) (by omega) (.int .i64 0)).other (B':=w.heap.size) (i:=3) (by omega) (.int .u64 se)).other (B':=w.heap.size) (i:=4) (by omega) (.int .u64 ep)
  have hx:=((((hB2.out.setCell (p:=⟨w.heap.size,0,none⟩) (by dsimp only;omega) (.int .i64 0)).setCell (p:=⟨w.heap.size,1,none⟩) (by dsimp only;omega) (.int .u32 0)).setCell (p:=⟨w.heap.size,2,none⟩) (by dsimp only;omega) (.int .i64 0)).setCell (p:=⟨w.heap.size,3,none⟩) (by dsimp only;omega) (.int .u64 se)).setCell (p:=⟨w.heap.size,4,none⟩) (by dsimp only;omega) (.int .u64 ep)
  refine at_world (fun X=>Below w.heap.size w X∧BoxN X w.heap.size 81 #[.int .i64 0,.int .u32 0,.int .i64 0,.int .u64 se,.int .u64 ep]∧BoxN X (w.heap.size+1) 81 #[.int .i64 0,.int .u32 0,.int .i64 0,.int .u64 0,.int .u64 0]) ⟨hx,b0,b1⟩ fun w3 hw=> ?_
  have hB3:=Lib.hid hw.1
  have H03:=Lib.hid hw.2.1
  have H13:=Lib.hid hw.2.2
  clear hw b0 b1 hx
  clear c00 f00 c01 f01 c02 f02 c03 f03 c04 f04 z0 c10 f10 c11 f11 c12 f12 c13 f13 c14 f14 z1
  obtain⟨c00,f00,c01,f01,c02,f02,c03,f03,c04,f04,z0⟩:=H03.out.x5
  obtain⟨c10,f10,c11,f11,c12,f12,c13,f13,c14,f14,z1⟩:=H13.out.x5
  go_wp2_with fail
  have b':=((((((H13.out.other (B':=w.heap.size) (i:=4) (by omega) (.int .u64 (ep+1))).set 0 (.int .i64 0)).set 1 (.int .u32 0)).set 2 (.int .i64 0)).set 3 (.int .u64 se)).set 4 (.int .u64 (ep+1)))
  have hB':=((((((hB3.out.setCell (p:=⟨w.heap.size,4,none⟩) (by dsimp only;omega) (.int .u64 (ep+1))).setCell (p:=⟨w.heap.size+1,0,none⟩) (by dsimp only;omega) (.int .i64 0)).setCell (p:=⟨w.heap.size+1,1,none⟩) (by dsimp only;omega) (.int .u32 0)).setCell (p:=⟨w.heap.size+1,2,none⟩) (by dsimp only;omega) (.int .i64 0)).setCell (p:=⟨w.heap.size+1,3,none⟩) (by dsimp only;omega) (.int .u64 se)).setCell (p:=⟨w.heap.size+1,4,none⟩) (by dsimp only;omega) (.int .u64 (ep+1)))
  have gg:=b'.x5
  exact bodyPost_ret (v:=.tuple #[.agg #[.int .i64 0,.int .u32 0,.int .i64 0,.int .u64 se,.int .u64 (ep+1)],.int .i64 0]) (by simp[results,Tryz.results79,go_sem,gg]) rfl ⟨rfl,hB'⟩
set_option maxHeartbeats 2000000 in
theorem r16Ticket_any (x:Sx) (seat:Int) (w:World):Calls Tryz.prog 81 #[sxV x,.int .u32 seat] w fun e w'=>e=.returned (.tuple #[tkV (sxTicket x seat).1,.int .i64 (sxTicket x seat).2])∧Below w.heap.size w w':=by
 have C:=Lib.hid (r16In_any x 2)
 have hT:=Lib.hid (show sxTicket x seat=if sxState x 2≠0 then(noTk,sxState x 2) else(⟨seat,x.owner,x.serial,x.epoch⟩,0) from rfl)
 unfold sxV at C
 unfold sxV tkV
 generalize sxTicket x seat=M at hT⊢
 generalize sxState x 2=E at C hT
 obtain⟨st,ow,ti,se,ep⟩:=x
 simp only at C hT⊢
 by_cases h:E=0
 ·subst h
  obtain rfl:M=(⟨seat,ow,se,ep⟩,0):=by rw[hT.out];simp
  clear hT
  go_enter Tryz.func81,Tryz.ntmps81
  go_wp2_with fail
  refine(C.out _).mono ?_
  rintro e w1 ⟨rfl,hb1⟩
  have hB1:=Lib.hid ((bal (ba w _)).trans (hb1.mono (bal (ba w _)).size))
  have b01:=((BoxN.new w 81 #[.int .i64 st,.int .u32 ow,.int .i64 ti,.int .u64 se,.int .u64 ep]).alloc (.cells #[.int .u32 0,.int .u32 0,.int .u64 0,.int .u64 0] 44)).later hb1
  have b11:=(BoxN.new (w.alloc (.cells #[.int .i64 st,.int .u32 ow,.int .i64 ti,.int .u64 se,.int .u64 ep] 81)) 44 #[.int .u32 0,.int .u32 0,.int .u64 0,.int .u64 0]).later hb1
  simp only[World.size_alloc] at b11
  have H01:=Lib.hid b01
  have H11:=Lib.hid b11
  clear b01 b11
  clear hb1
  obtain⟨c00,f00,c01,f01,c02,f02,c03,f03,c04,f04,z0⟩:=H01.out.x5
  obtain⟨c10,f10,c11,f11,c12,f12,c13,f13,z1⟩:=H11.out.x4
  go_wp2_with fail
  have b':=((((H11.out.set 0 (.int .u32 seat)).set 1 (.int .u32 ow)).set 2 (.int .u64 se)).set 3 (.int .u64 ep))
  have hB':=((((hB1.out.setCell (p:=⟨w.heap.size+1,0,none⟩) (by dsimp only;omega) (.int .u32 seat)).setCell (p:=⟨w.heap.size+1,1,none⟩) (by dsimp only;omega) (.int .u32 ow)).setCell (p:=⟨w.heap.size+1,2,none⟩) (by dsimp only;omega) (.int .u64 se)).setCell (p:=⟨w.heap.size+1,3,none⟩) (by dsimp only;omega) (.int .u64 ep))
  have g0:=b'.cell 0 (.int .u32 seat) rfl
  have g1:=b'.cell 1 (.int .u32 ow) rfl
  have g2:=b'.cell 2 (.int .u64 se) rfl
  have g3:=b'.cell 3 (.int .u64 ep) rfl
  exact bodyPost_ret (v:=.tuple #[.agg #[.int .u32 seat,.int .u32 ow,.int .u64 se,.int .u64 ep],.int .i64 0]) (by simp[results,Tryz.results81,go_sem,g0,g1,g2,g3]) rfl ⟨rfl,hB'⟩
 ·obtain rfl:M=(noTk,E):=by rw[hT.out];simp[h]
  have t:(E !=0)=true:=by simpa using h
  unfold noTk
  clear hT h
  go_enter Tryz.func81,Tryz.ntmps81
  go_wp2_with fail
  refine(C.out _).mono ?_
  rintro e w1 ⟨rfl,hb1⟩
  have hB1:=Lib.hid ((bal (ba w _)).trans (hb1.mono (bal (ba w _)).size))
  have b01:=((BoxN.new w 81 #[.int .i64 st,.int .u32 ow,.int .i64 ti,.int .u64 se,.int .u64 ep]).alloc (.cells #[.int .u32 0,.int .u32 0,.int .u64 0,.int .u64 0] 44)).later hb1
  have b11:=(BoxN.new (w.alloc (.cells #[.int .i64 st,.int .u32 ow,.int .i64 ti,.int .u64 se,.int .u64 ep] 81)) 44 #[.int .u32 0,.int .u32 0,.int .u64 0,.int .u64 0]).later hb1
  simp only[World.size_alloc] at b11
  have H01:=Lib.hid b01
  have H11:=Lib.hid b11
  clear b01 b11
  clear hb1
  obtain⟨c00,f00,c01,f01,c02,f02,c03,f03,c04,f04,z0⟩:=H01.out.x5
  obtain⟨c10,f10,c11,f11,c12,f12,c13,f13,z1⟩:=H11.out.x4
  go_wp2_with fail
  have b':=((((H11.out.set 0 (.int .u32 0)).set 1 (.int .u32 0)).set 2 (.int .u64 0)).set 3 (.int .u64 0))
  have hB':=((((hB1.out.setCell (p:=⟨w.heap.size+1,0,none⟩) (by dsimp only;omega) (.int .u32 0)).setCell (p:=⟨w.heap.size+1,1,none⟩) (by dsimp only;omega) (.int .u32 0)).setCell (p:=⟨w.heap.size+1,2,none⟩) (by dsimp only;omega) (.int .u64 0)).setCell (p:=⟨w.heap.size+1,3,none⟩) (by dsimp only;omega) (.int .u64 0))
  have g0:=b'.cell 0 (.int .u32 0) rfl
  have g1:=b'.cell 1 (.int .u32 0) rfl
  have g2:=b'.cell 2 (.int .u64 0) rfl
  have g3:=b'.cell 3 (.int .u64 0) rfl
  exact bodyPost_ret (v:=.tuple #[.agg #[.int .u32 0,.int .u32 0,.int .u64 0,.int .u64 0],.int .i64 E]) (by simp[results,Tryz.results81,go_sem,g0,g1,g2,g3]) rfl ⟨rfl,hB'⟩
set_option maxHeartbeats 2000000 in
theorem r16Hold_any (x:Sx) (owner d:Int) (w:World):Calls Tryz.prog 74 #[sxV x,.int .u32 owner,.int .i64 d] w fun e w'=>e=.returned (.tuple #[sxV (sxHold x owner d).1,.int .i64 (sxHold x owner d).2])∧Below w.heap.size w w':=by
 have C:=Lib.hid (r16Check_any x)
 have C2:=Lib.hid (r16In_any x 0)
 have hT:=Lib.hid (show sxHold x owner d=if(if(if sxCheck x≠0 then sxCheck x else if d<0 then 7 else 0)≠0 then(if sxCheck x≠0 then sxCheck x else if d<0 then 7 else 0) else sxState x 0)≠0 then(x,(if(if sxCheck x≠0 then sxCheck x else if d<0 then 7 else 0)≠0 then(if sxCheck x≠0 then sxCheck x else if d<0 then 7 else 0) else sxState x 0)) else({x with state:=1,owner:=owner,till:=d},0) from rfl)
 unfold sxV at C C2
 unfold sxV
 generalize sxHold x owner d=M at hT⊢
 generalize sxState x 0=E2 at C2 hT
 generalize sxCheck x=E at C hT
 obtain⟨st,ow,ti,se,ep⟩:=x
 simp only at C C2 hT⊢
 by_cases h:E=0
 case neg=>
  obtain rfl:M=(⟨st,ow,ti,se,ep⟩,E):=by rw[hT.out];simp[h]
  have t:(E==0)=false:=by simpa using h
  have t':(E !=0)=true:=by simpa using h
  clear hT h
  go_enter Tryz.func74,Tryz.ntmps74
  go_wp2_with fail
  refine(C.out _).mono ?_
  rintro e w1 ⟨rfl,hb1⟩
  have hB1:=Lib.hid ((bal (ba w _)).trans (hb1.mono (bal (ba w _)).size))
  have b01:=((BoxN.new w 81 #[.int .i64 st,.int .u32 ow,.int .i64 ti,.int .u64 se,.int .u64 ep]).alloc (.cells #[.int .i64 0,.int .u32 0,.int .i64 0,.int .u64 0,.int .u64 0] 81)).later hb1
  have b11:=(BoxN.new (w.alloc (.cells #[.int .i64 st,.int .u32 ow,.int .i64 ti,.int .u64 se,.int .u64 ep] 81)) 81 #[.int .i64 0,.int .u32 0,.int .i64 0,.int .u64 0,.int .u64 0]).later hb1
  simp only[World.size_alloc] at b11
  have H01:=Lib.hid b01
  have H11:=Lib.hid b11
  clear b01 b11
  clear hb1
  obtain⟨c00,f00,c01,f01,c02,f02,c03,f03,c04,f04,z0⟩:=H01.out.x5
  obtain⟨c10,f10,c11,f11,c12,f12,c13,f13,c14,f14,z1⟩:=H11.out.x5
  go_wp2_with fail
  have b':=(((((H11.out.set 0 (.int .i64 st)).set 1 (.int .u32 ow)).set 2 (.int .i64 ti)).set 3 (.int .u64 se)).set 4 (.int .u64 ep))
  have hB':=(((((hB1.out.setCell (p:=⟨w.heap.size+1,0,none⟩) (by dsimp only;omega) (.int .i64 st)).setCell (p:=⟨w.heap.size+1,1,none⟩) (by dsimp only;omega) (.int .u32 ow)).setCell (p:=⟨w.heap.size+1,2,none⟩) (by dsimp only;omega) (.int .i64 ti)).setCell (p:=⟨w.heap.size+1,3,none⟩) (by dsimp only;omega) (.int .u64 se)).setCell (p:=⟨w.heap.size+1,4,none⟩) (by dsimp only;omega) (.int .u64 ep))
  have gg:=b'.x5
  exact bodyPost_ret (v:=.tuple #[.agg #[.int .i64 st,.int .u32 ow,.int .i64 ti,.int .u64 se,.int .u64 ep],.int .i64 E]) (by simp[results,Tryz.results74,go_sem,gg]) rfl ⟨rfl,hB'⟩
 subst h
 by_cases h:d<0
 ·obtain rfl:M=(⟨st,ow,ti,se,ep⟩,7):=by rw[hT.out];simp[h]
  have t:decide (d<0)=true:=decide_eq_true h
  clear hT h
  go_enter Tryz.func74,Tryz.ntmps74
  go_wp2_with fail
  refine(C.out _).mono ?_
  rintro e w1 ⟨rfl,hb1⟩
  have hB1:=Lib.hid ((bal (ba w _)).trans (hb1.mono (bal (ba w _)).size))
  have b01:=((BoxN.new w 81 #[.int .i64 st,.int .u32 ow,.int .i64 ti,.int .u64 se,.int .u64 ep]).alloc (.cells #[.int .i64 0,.int .u32 0,.int .i64 0,.int .u64 0,.int .u64 0] 81)).later hb1
  have b11:=(BoxN.new (w.alloc (.cells #[.int .i64 st,.int .u32 ow,.int .i64 ti,.int .u64 se,.int .u64 ep] 81)) 81 #[.int .i64 0,.int .u32 0,.int .i64 0,.int .u64 0,.int .u64 0]).later hb1
  simp only[World.size_alloc] at b11
  have H01:=Lib.hid b01
  have H11:=Lib.hid b11
  clear b01 b11
  clear hb1
  obtain⟨c00,f00,c01,f01,c02,f02,c03,f03,c04,f04,z0⟩:=H01.out.x5
  obtain⟨c10,f10,c11,f11,c12,f12,c13,f13,c14,f14,z1⟩:=H11.out.x5
  go_wp2_with fail
  have b':=(((((H11.out.set 0 (.int .i64 st)).set 1 (.int .u32 ow)).set 2 (.int .i64 ti)).set 3 (.int .u64 se)).set 4 (.int .u64 ep))
  have hB':=(((((hB1.out.setCell (p:=⟨w.heap.size+1,0,none⟩) (by dsimp only;omega) (.int .i64 st)).setCell (p:=⟨w.heap.size+1,1,none⟩) (by dsimp only;omega) (.int .u32 ow)).setCell (p:=⟨w.heap.size+1,2,none⟩) (by dsimp only;omega) (.int .i64 ti)).setCell (p:=⟨w.heap.size+1,3,none⟩) (by dsimp only;omega) (.int .u64 se)).setCell (p:=⟨w.heap.size+1,4,none⟩) (by dsimp only;omega) (.int .u64 ep))
  have gg:=b'.x5
  exact bodyPost_ret (v:=.tuple #[.agg #[.int .i64 st,.int .u32 ow,.int .i64 ti,.int .u64 se,.int .u64 ep],.int .i64 7]) (by simp[results,Tryz.results74,go_sem,gg]) rfl ⟨rfl,hB'⟩
 have t:decide (d<0)=false:=decide_eq_false h
 by_cases h2:E2=0
 case neg=>
  obtain rfl:M=(⟨st,ow,ti,se,ep⟩,E2):=by rw[hT.out];simp[h,h2]
  have t':(E2 !=0)=true:=by simpa using h2
  clear hT h h2
  go_enter Tryz.func74,Tryz.ntmps74
  go_wp2_with fail
  refine(C.out _).mono ?_
  rintro e w1 ⟨rfl,hb1⟩
  have hB1:=Lib.hid ((bal (ba w _)).trans (hb1.mono (bal (ba w _)).size))
  have b01:=((BoxN.new w 81 #[.int .i64 st,.int .u32 ow,.int .i64 ti,.int .u64 se,.int .u64 ep]).alloc (.cells #[.int .i64 0,.int .u32 0,.int .i64 0,.int .u64 0,.int .u64 0] 81)).later hb1
  have b11:=(BoxN.new (w.alloc (.cells #[.int .i64 st,.int .u32 ow,.int .i64 ti,.int .u64 se,.int .u64 ep] 81)) 81 #[.int .i64 0,.int .u32 0,.int .i64 0,.int .u64 0,.int .u64 0]).later hb1
  simp only[World.size_alloc] at b11
  have H01:=Lib.hid b01
  have H11:=Lib.hid b11
  clear b01 b11
  clear hb1
  obtain⟨c00,f00,c01,f01,c02,f02,c03,f03,c04,f04,z0⟩:=H01.out.x5
  obtain⟨c10,f10,c11,f11,c12,f12,c13,f13,c14,f14,z1⟩:=H11.out.x5
  go_wp2_with fail
  refine(C2.out _).mono ?_
  rintro e w2 ⟨rfl,hb2⟩
  have hB2:=Lib.hid (hB1.out.trans (hb2.mono hB1.out.size))
  have b02:=H01.out.later hb2
  have b12:=H11.out.later hb2
  have H02:=Lib.hid b02
  have H12:=Lib.hid b12
  clear b02 b12
  clear hb2
  clear c00 f00 c01 f01 c02 f02 c03 f03 c04 f04 z0 c10 f10 c11 f11 c12 f12 c13 f13 c14 f14 z1
  obtain⟨c00,f00,c01,f01,c02,f02,c03,f03,c04,f04,z0⟩:=H02.out.x5
  obtain⟨c10,f10,c11,f11,c12,f12,c13,f13,c14,f14,z1⟩:=H12.out.x5
  go_wp2_with fail
  have b':=(((((H12.out.set 0 (.int .i64 st)).set 1 (.int .u32 ow)).set 2 (.int .i64 ti)).set 3 (.int .u64 se)).set 4 (.int .u64 ep))
  have hB':=(((((hB2.out.setCell (p:=⟨w.heap.size+1,0,none⟩) (by dsimp only;omega) (.int .i64 st)).setCell (p:=⟨w.heap.size+1,1,none⟩) (by dsimp only;omega) (.int .u32 ow)).setCell (p:=⟨w.heap.size+1,2,none⟩) (by dsimp only;omega) (.int .i64 ti)).setCell (p:=⟨w.heap.size+1,3,none⟩) (by dsimp only;omega) (.int .u64 se)).setCell (p:=⟨w.heap.size+1,4,none⟩) (by dsimp only;omega) (.int .u64 ep))
  have gg:=b'.x5
  exact bodyPost_ret (v:=.tuple #[.agg #[.int .i64 st,.int .u32 ow,.int .i64 ti,.int .u64 se,.int .u64 ep],.int .i64 E2]) (by simp[results,Tryz.results74,go_sem,gg]) rfl ⟨rfl,hB'⟩
 subst h2
 obtain rfl:M=(⟨1,owner,d,se,ep⟩,0):=by rw[hT.out];simp[h]
 clear hT h
 go_enter Tryz.func74,Tryz.ntmps74
 go_wp2_with fail
 refine(C.out _).mono ?_
 rintro e w1 ⟨rfl,hb1⟩
 have hB1:=Lib.hid ((bal (ba w _)).trans (hb1.mono (bal (ba w _)).size))
 have b01:=((BoxN.new w 81 #[.int .i64 st,.int .u32 ow,.int .i64 ti,.int .u64 se,.int .u64 ep]).alloc (.cells #[.int .i64 0,.int .u32 0,.int .i64 0,.int .u64 0,.int .u64 0] 81)).later hb1
 have b11:=(BoxN.new (w.alloc (.cells #[.int .i64 st,.int .u32 ow,.int .i64 ti,.int .u64 se,.int .u64 ep] 81)) 81 #[.int .i64 0,.int .u32 0,.int .i64 0,.int .u64 0,.int .u64 0]).later hb1
 simp only[World.size_alloc] at b11
 have H01:=Lib.hid b01
 have H11:=Lib.hid b11
 clear b01 b11
 clear hb1
 obtain⟨c00,f00,c01,f01,c02,f02,c03,f03,c04,f04,z0⟩:=H01.out.x5
 obtain⟨c10,f10,c11,f11,c12,f12,c13,f13,c14,f14,z1⟩:=H11.out.x5
 go_wp2_with fail
 refine(C2.out _).mono ?_
 rintro e w2 ⟨rfl,hb2⟩
 have hB2:=Lib.hid (hB1.out.trans (hb2.mono hB1.out.size))
 have b02:=H01.out.later hb2
 have b12:=H11.out.later hb2
 have H02:=Lib.hid b02
 have H12:=Lib.hid b12
 clear b02 b12
 clear hb2
 clear c00 f00 c01 f01 c02 f02 c03 f03 c04 f04 z0 c10 f10 c11 f11 c12 f12 c13 f13 c14 f14 z1
 obtain⟨c00,f00,c01,f01,c02,f02,c03,f03,c04,f04,z0⟩:=H02.out.x5
 obtain⟨c10,f10,c11,f11,c12,f12,c13,f13,c14,f14,z1⟩:=H12.out.x5
 go_wp2_with fail
 have b':=((((((((H12.out.other (B':=w.heap.size) (i:=0) (by omega) (.int .i64 1)).other (B':=w.heap.size) (i:=1) (by omega) (.int .u32 owner)).other (B':=w.heap.size) (i:=2) (by omega) (.int .i64 d)).set 0 (.int .i64 1)).set 1 (.int .u32 owner)).set 2 (.int .i64 d)).set 3 (.int .u64 se)).set 4 (.int .u64 ep))
 have hB':=((((((((hB2.out.setCell (p:=⟨w.heap.size,0,none⟩) (by dsimp only;omega) (.int .i64 1)).setCell (p:=⟨w.heap.size,1,none⟩) (by dsimp only;omega) (.int .u32 owner)).setCell (p:=⟨w.heap.size,2,none⟩) (by dsimp only;omega) (.int .i64 d)).setCell (p:=⟨w.heap.size+1,0,none⟩) (by dsimp only;omega) (.int .i64 1)).setCell (p:=⟨w.heap.size+1,1,none⟩) (by dsimp only;omega) (.int .u32 owner)).setCell (p:=⟨w.heap.size+1,2,none⟩) (by dsimp only;omega) (.int .i64 d)).setCell (p:=⟨w.heap.size+1,3,none⟩) (by dsimp only;omega) (.int .u64 se)).setCell (p:=⟨w.heap.size+1,4,none⟩) (by dsimp only;omega) (.int .u64 ep))
 have gg:=b'.x5
 exact bodyPost_ret (v:=.tuple #[.agg #[.int .i64 1,.int .u32 owner,.int .i64 d,.int .u64 se,.int .u64 ep],.int .i64 0]) (by simp[results,Tryz.results74,go_sem,gg]) rfl ⟨rfl,hB'⟩
theorem r05Both_any (a b:Int) (w:World):Calls Tryz.prog 107 #[.int .i64 a,.int .i64 b] w fun e w'=>e=.returned (.int .i64 (if a<0∨b<0 then 7 else 0))∧Below w.heap.size w w':=by
 by_cases h1:a<0
 ·have hT:=Lib.hid (show(if a<0∨b<0 then(7:Int) else 0)=7 by rw[if_pos (.inl h1)])
  have t1:decide (a<0)=true:=decide_eq_true h1
  go_enter Tryz.func107,Tryz.ntmps107
  go_wp2
  go_ret
  exact⟨by first|rfl|(rw[hT.out];rfl),Below.refl _ _⟩
 have t1:decide (a<0)=false:=decide_eq_false h1
 by_cases h2:b<0
 ·have hT:=Lib.hid (show(if a<0∨b<0 then(7:Int) else 0)=7 by rw[if_pos (.inr h2)])
  have t2:decide (b<0)=true:=decide_eq_true h2
  go_enter Tryz.func107,Tryz.ntmps107
  go_wp2
  go_ret
  exact⟨by first|rfl|(rw[hT.out];rfl),Below.refl _ _⟩
 ·have hT:=Lib.hid (show(if a<0∨b<0 then(7:Int) else 0)=0 by rw[if_neg (by omega)])
  have t2:decide (b<0)=false:=decide_eq_false h2
  go_enter Tryz.func107,Tryz.ntmps107
  go_wp2
  go_ret
  exact⟨by first|rfl|(rw[hT.out];rfl),Below.refl _ _⟩
theorem r05Passed_any (d n:Int) (w:World):Calls Tryz.prog 70 #[.int .i64 d,.int .i64 n] w fun e w'=>e=.returned (.tuple #[.bool (passT d n).1,.int .i64 (passT d n).2])∧Below w.heap.size w w':=by
 have C:=Lib.hid (r05Both_any d n w)
 by_cases h0:d<0∨n<0
 ·have hT:=Lib.hid (show passT d n=(false,7) by rw[passT,if_pos h0])
  rw[if_pos h0] at C
  clear h0
  go_enter Tryz.func70,Tryz.ntmps70
  go_wp2_with (go_at_call 107;refine C.out.mono ?_;rintro e w' ⟨rfl,hb⟩)
  go_ret2
  exact⟨by rw[hT.out];rfl,hb⟩
 ·have hT:=Lib.hid (show passT d n=(decide (d≤n),0) by rw[passT,if_neg h0])
  rw[if_neg h0] at C
  clear h0
  generalize hq:decide (d≤n)=q at hT
  go_enter Tryz.func70,Tryz.ntmps70
  go_wp2_with (go_at_call 107;refine C.out.mono ?_;rintro e w' ⟨rfl,hb⟩)
  go_ret2
  exact⟨by rw[hT.out];first|rfl|(rw[←hq];rfl),hb⟩
set_option maxHeartbeats 2000000 in
theorem r16Expire_any (x:Sx) (d:Int) (w:World):Calls Tryz.prog 71 #[sxV x,.int .i64 d] w fun e w'=>e=.returned (.tuple #[sxV (sxExpire x d).1,.int .i64 (sxExpire x d).2])∧Below w.heap.size w w':=by
 have C:=Lib.hid (r16Check_any x)
 have C2:=Lib.hid (r16In_any x 1)
 have hT:=Lib.hid (show sxExpire x d=if(if(if sxCheck x≠0 then sxCheck x else if d<0 then 7 else 0)≠0 then(if sxCheck x≠0 then sxCheck x else if d<0 then 7 else 0) else sxState x 1)≠0 then(x,(if(if sxCheck x≠0 then sxCheck x else if d<0 then 7 else 0)≠0 then(if sxCheck x≠0 then sxCheck x else if d<0 then 7 else 0) else sxState x 1)) else if(passT x.till d).1 then(sxOpen x,0) else(x,9) from rfl)
 have C3:=Lib.hid (r05Passed_any x.till d)
 have C4:=Lib.hid (r16Free_any x)
 unfold sxV at C C2
 unfold sxV sxOpen at C4
 unfold sxV
 generalize sxExpire x d=M at hT⊢
 generalize sxState x 1=E2 at C2 hT
 generalize sxCheck x=E at C hT
 obtain⟨st,ow,ti,se,ep⟩:=x
 simp only[sxOpen] at C C2 C3 C4 hT⊢
 generalize passT ti d=Q at C3 hT
 obtain⟨q1,q2⟩:=Q
 simp only at C3 hT
 by_cases h:E=0
 case neg=>
  obtain rfl:M=(⟨st,ow,ti,se,ep⟩,E):=by rw[hT.out];simp[h]
  have t:(E==0)=false:=by simpa using h
  have t':(E !=0)=true:=by simpa using h
  clear hT h
  go_enter Tryz.func71,Tryz.ntmps71
  go_wp2_with fail
  refine(C.out _).mono ?_
  rintro e w1 ⟨rfl,hb1⟩
  have hB1:=Lib.hid ((bal (ba w _)).trans (hb1.mono (bal (ba w _)).size))
  have b01:=((BoxN.new w 81 #[.int .i64 st,.int .u32 ow,.int .i64 ti,.int .u64 se,.int .u64 ep]).alloc (.cells #[.int .i64 0,.int .u32 0,.int .i64 0,.int .u64 0,.int .u64 0] 81)).later hb1
  have b11:=(BoxN.new (w.alloc (.cells #[.int .i64 st,.int .u32 ow,.int .i64 ti,.int .u64 se,.int .u64 ep] 81)) 81 #[.int .i64 0,.int .u32 0,.int .i64 0,.int .u64 0,.int .u64 0]).later hb1
  simp only[World.size_alloc] at b11
  have H01:=Lib.hid b01
  have H11:=Lib.hid b11
  clear b01 b11
  clear hb1
  obtain⟨c00,f00,c01,f01,c02,f02,c03,f03,c04,f04,z0⟩:=H01.out.x5
  obtain⟨c10,f10,c11,f11,c12,f12,c13,f13,c14,f14,z1⟩:=H11.out.x5
  go_wp2_with fail
  have b':=(((((H11.out.set 0 (.int .i64 st)).set 1 (.int .u32 ow)).set 2 (.int .i64 ti)).set 3 (.int .u64 se)).set 4 (.int .u64 ep))
  have hB':=(((((hB1.out.setCell (p:=⟨w.heap.size+1,0,none⟩) (by dsimp only;omega) (.int .i64 st)).setCell (p:=⟨w.heap.size+1,1,none⟩) (by dsimp only;omega) (.int .u32 ow)).setCell (p:=⟨w.heap.size+1,2,none⟩) (by dsimp only;omega) (.int .i64 ti)).setCell (p:=⟨w.heap.size+1,3,none⟩) (by dsimp only;omega) (.int .u64 se)).setCell (p:=⟨w.heap.size+1,4,none⟩) (by dsimp only;omega) (.int .u64 ep))
  have gg:=b'.x5
  exact bodyPost_ret (v:=.tuple #[.agg #[.int .i64 st,.int .u32 ow,.int .i64 ti,.int .u64 se,.int .u64 ep],.int .i64 E]) (by simp[results,Tryz.results71,go_sem,gg]) rfl ⟨rfl,hB'⟩
 subst h
 by_cases h:d<0
 ·obtain rfl:M=(⟨st,ow,ti,se,ep⟩,7):=by rw[hT.out];simp[h]
  have t:decide (d<0)=true:=decide_eq_true h
  clear hT h
  go_enter Tryz.func71,Tryz.ntmps71
  go_wp2_with fail
  refine(C.out _).mono ?_
  rintro e w1 ⟨rfl,hb1⟩
  have hB1:=Lib.hid ((bal (ba w _)).trans (hb1.mono (bal (ba w _)).size))
  have b01:=((BoxN.new w 81 #[.int .i64 st,.int .u32 ow,.int .i64 ti,.int .u64 se,.int .u64 ep]).alloc (.cells #[.int .i64 0,.int .u32 0,.int .i64 0,.int .u64 0,.int .u64 0] 81)).later hb1
  have b11:=(BoxN.new (w.alloc (.cells #[.int .i64 st,.int .u32 ow,.int .i64 ti,.int .u64 se,.int .u64 ep] 81)) 81 #[.int .i64 0,.int .u32 0,.int .i64 0,.int .u64 0,.int .u64 0]).later hb1
  simp only[World.size_alloc] at b11
  have H01:=Lib.hid b01
  have H11:=Lib.hid b11
  clear b01 b11
  clear hb1
  obtain⟨c00,f00,c01,f01,c02,f02,c03,f03,c04,f04,z0⟩:=H01.out.x5
  obtain⟨c10,f10,c11,f11,c12,f12,c13,f13,c14,f14,z1⟩:=H11.out.x5
  go_wp2_with fail
  have b':=(((((H11.out.set 0 (.int .i64 st)).set 1 (.int .u32 ow)).set 2 (.int .i64 ti)).set 3 (.int .u64 se)).set 4 (.int .u64 ep))
  have hB':=(((((hB1.out.setCell (p:=⟨w.heap.size+1,0,none⟩) (by dsimp only;omega) (.int .i64 st)).setCell (p:=⟨w.heap.size+1,1,none⟩) (by dsimp only;omega) (.int .u32 ow)).setCell (p:=⟨w.heap.size+1,2,none⟩) (by dsimp only;omega) (.int .i64 ti)).setCell (p:=⟨w.heap.size+1,3,none⟩) (by dsimp only;omega) (.int .u64 se)).setCell (p:=⟨w.heap.size+1,4,none⟩) (by dsimp only;omega) (.int .u64 ep))
  have gg:=b'.x5
  exact bodyPost_ret (v:=.tuple #[.agg #[.int .i64 st,.int .u32 ow,.int .i64 ti,.int .u64 se,.int .u64 ep],.int .i64 7]) (by simp[results,Tryz.results71,go_sem,gg]) rfl ⟨rfl,hB'⟩
 have t:decide (d<0)=false:=decide_eq_false h
 by_cases h2:E2=0
 case neg=>
  obtain rfl:M=(⟨st,ow,ti,se,ep⟩,E2):=by rw[hT.out];simp[h,h2]
  have t':(E2 !=0)=true:=by simpa using h2
  clear hT h h2
  go_enter Tryz.func71,Tryz.ntmps71
  go_wp2_with fail
  refine(C.out _).mono ?_
  rintro e w1 ⟨rfl,hb1⟩
  have hB1:=Lib.hid ((bal (ba w _)).trans (hb1.mono (bal (ba w _)).size))
  have b01:=((BoxN.new w 81 #[.int .i64 st,.int .u32 ow,.int .i64 ti,.int .u64 se,.int .u64 ep]).alloc (.cells #[.int .i64 0,.int .u32 0,.int .i64 0,.int .u64 0,.int .u64 0] 81)).later hb1
  have b11:=(BoxN.new (w.alloc (.cells #[.int .i64 st,.int .u32 ow,.int .i64 ti,.int .u64 se,.int .u64 ep] 81)) 81 #[.int .i64 0,.int .u32 0,.int .i64 0,.int .u64 0,.int .u64 0]).later hb1
  simp only[World.size_alloc] at b11
  have H01:=Lib.hid b01
  have H11:=Lib.hid b11
  clear b01 b11
  clear hb1
  obtain⟨c00,f00,c01,f01,c02,f02,c03,f03,c04,f04,z0⟩:=H01.out.x5
  obtain⟨c10,f10,c11,f11,c12,f12,c13,f13,c14,f14,z1⟩:=H11.out.x5
  go_wp2_with fail
  refine(C2.out _).mono ?_
  rintro e w2 ⟨rfl,hb2⟩
  have hB2:=Lib.hid (hB1.out.trans (hb2.mono hB1.out.size))
  have b02:=H01.out.later hb2
  have b12:=H11.out.later hb2
  have H02:=Lib.hid b02
  have H12:=Lib.hid b12
  clear b02 b12
  clear hb2
  clear c00 f00 c01 f01 c02 f02 c03 f03 c04 f04 z0 c10 f10 c11 f11 c12 f12 c13 f13 c14 f14 z1
  obtain⟨c00,f00,c01,f01,c02,f02,c03,f03,c04,f04,z0⟩:=H02.out.x5
  obtain⟨c10,f10,c11,f11,c12,f12,c13,f13,c14,f14,z1⟩:=H12.out.x5
  go_wp2_with fail
  have b':=(((((H12.out.set 0 (.int .i64 st)).set 1 (.int .u32 ow)).set 2 (.int .i64 ti)).set 3 (.int .u64 se)).set 4 (.int .u64 ep))
  have hB':=(((((hB2.out.setCell (p:=⟨w.heap.size+1,0,none⟩) (by dsimp only;omega) (.int .i64 st)).setCell (p:=⟨w.heap.size+1,1,none⟩) (by dsimp only;omega) (.int .u32 ow)).setCell (p:=⟨w.heap.size+1,2,none⟩) (by dsimp only;omega) (.int .i64 ti)).setCell (p:=⟨w.heap.size+1,3,none⟩) (by dsimp only;omega) (.int .u64 se)).setCell (p:=⟨w.heap.size+1,4,none⟩) (by dsimp only;omega) (.int .u64 ep))
  have gg:=b'.x5
  exact bodyPost_ret (v:=.tuple #[.agg #[.int .i64 st,.int .u32 ow,.int .i64 ti,.int .u64 se,.int .u64 ep],.int .i64 E2]) (by simp[results,Tryz.results71,go_sem,gg]) rfl ⟨rfl,hB'⟩
 subst h2
 cases q1
 ·obtain rfl:M=(⟨st,ow,ti,se,ep⟩,9):=by rw[hT.out];simp[h]
  clear hT h
  go_enter Tryz.func71,Tryz.ntmps71
  go_wp2_with fail
  refine(C.out _).mono ?_
  rintro e w1 ⟨rfl,hb1⟩
  have hB1:=Lib.hid ((bal (ba w _)).trans (hb1.mono (bal (ba w _)).size))
  have b01:=((BoxN.new w 81 #[.int .i64 st,.int .u32 ow,.int .i64 ti,.int .u64 se,.int .u64 ep]).alloc (.cells #[.int .i64 0,.int .u32 0,.int .i64 0,.int .u64 0,.int .u64 0] 81)).later hb1
  have b11:=(BoxN.new (w.alloc (.cells #[.int .i64 st,.int .u32 ow,.int .i64 ti,.int .u64 se,.int .u64 ep] 81)) 81 #[.int .i64 0,.int .u32 0,.int .i64 0,.int .u64 0,.int .u64 0]).later hb1
  simp only[World.size_alloc] at b11
  have H01:=Lib.hid b01
  have H11:=Lib.hid b11
  clear b01 b11
  clear hb1
  obtain⟨c00,f00,c01,f01,c02,f02,c03,f03,c04,f04,z0⟩:=H01.out.x5
  obtain⟨c10,f10,c11,f11,c12,f12,c13,f13,c14,f14,z1⟩:=H11.out.x5
  go_wp2_with fail
  refine(C2.out _).mono ?_
  rintro e w2 ⟨rfl,hb2⟩
  have hB2:=Lib.hid (hB1.out.trans (hb2.mono hB1.out.size))
  have b02:=H01.out.later hb2
  have b12:=H11.out.later hb2
  have H02:=Lib.hid b02
  have H12:=Lib.hid b12
  clear b02 b12
  clear hb2
  clear c00 f00 c01 f01 c02 f02 c03 f03 c04 f04 z0 c10 f10 c11 f11 c12 f12 c13 f13 c14 f14 z1
  obtain⟨c00,f00,c01,f01,c02,f02,c03,f03,c04,f04,z0⟩:=H02.out.x5
  obtain⟨c10,f10,c11,f11,c12,f12,c13,f13,c14,f14,z1⟩:=H12.out.x5
  go_wp2_with fail
  refine(C3.out _).mono ?_
  rintro e w3 ⟨rfl,hb3⟩
  have hB3:=Lib.hid (hB2.out.trans (hb3.mono hB2.out.size))
  have b03:=H02.out.later hb3
  have b13:=H12.out.later hb3
  have H03:=Lib.hid b03
  have H13:=Lib.hid b13
  clear b03 b13
  clear hb3
  clear c00 f00 c01 f01 c02 f02 c03 f03 c04 f04 z0 c10 f10 c11 f11 c12 f12 c13 f13 c14 f14 z1
  obtain⟨c00,f00,c01,f01,c02,f02,c03,f03,c04,f04,z0⟩:=H03.out.x5
  obtain⟨c10,f10,c11,f11,c12,f12,c13,f13,c14,f14,z1⟩:=H13.out.x5
  go_wp2_with fail
  have b':=(((((H13.out.set 0 (.int .i64 st)).set 1 (.int .u32 ow)).set 2 (.int .i64 ti)).set 3 (.int .u64 se)).set 4 (.int .u64 ep))
  have hB':=(((((hB3.out.setCell (p:=⟨w.heap.size+1,0,none⟩) (by dsimp only;omega) (.int .i64 st)).setCell (p:=⟨w.heap.size+1,1,none⟩) (by dsimp only;omega) (.int .u32 ow)).setCell (p:=⟨w.heap.size+1,2,none⟩) (by dsimp only;omega) (.int .i64 ti)).setCell (p:=⟨w.heap.size+1,3,none⟩) (by dsimp only;omega) (.int .u64 se)).setCell (p:=⟨w.heap.size+1,4,none⟩) (by dsimp only;omega) (.int .u64 ep))
  have gg:=b'.x5
  exact bodyPost_ret (v:=.tuple #[.agg #[.int .i64 st,.int .u32 ow,.int .i64 ti,.int .u64 se,.int .u64 ep],.int .i64 9]) (by simp[results,Tryz.results71,go_sem,gg]) rfl ⟨rfl,hB'⟩
 ·obtain rfl:M=(⟨0,0,0,se,ep⟩,0):=by rw[hT.out];simp[h]
  clear hT h
  go_enter Tryz.func71,Tryz.ntmps71
  go_wp2_with fail
  refine(C.out _).mono ?_
  rintro e w1 ⟨rfl,hb1⟩
  have hB1:=Lib.hid ((bal (ba w _)).trans (hb1.mono (bal (ba w _)).size))
  have b01:=((BoxN.new w 81 #[.int .i64 st,.int .u32 ow,.int .i64 ti,.int .u64 se,.int .u64 ep]).alloc (.cells #[.int .i64 0,.int .u32 0,.int .i64 0,.int .u64 0,.int .u64 0] 81)).later hb1
  have b11:=(BoxN.new (w.alloc (.cells #[.int .i64 st,.int .u32 ow,.int .i64 ti,.int .u64 se,.int .u64 ep] 81)) 81 #[.int .i64 0,.int .u32 0,.int .i64 0,.int .u64 0,.int .u64 0]).later hb1
  simp only[World.size_alloc] at b11
  have H01:=Lib.hid b01
  have H11:=Lib.hid b11
  clear b01 b11
  clear hb1
  obtain⟨c00,f00,c01,f01,c02,f02,c03,f03,c04,f04,z0⟩:=H01.out.x5
  obtain⟨c10,f10,c11,f11,c12,f12,c13,f13,c14,f14,z1⟩:=H11.out.x5
  go_wp2_with fail
  refine(C2.out _).mono ?_
  rintro e w2 ⟨rfl,hb2⟩
  have hB2:=Lib.hid (hB1.out.trans (hb2.mono hB1.out.size))
  have b02:=H01.out.later hb2
  have b12:=H11.out.later hb2
  have H02:=Lib.hid b02
  have H12:=Lib.hid b12
  clear b02 b12
  clear hb2
  clear c00 f00 c01 f01 c02 f02 c03 f03 c04 f04 z0 c10 f10 c11 f11 c12 f12 c13 f13 c14 f14 z1
  obtain⟨c00,f00,c01,f01,c02,f02,c03,f03,c04,f04,z0⟩:=H02.out.x5
  obtain⟨c10,f10,c11,f11,c12,f12,c13,f13,c14,f14,z1⟩:=H12.out.x5
  go_wp2_with fail
  refine(C3.out _).mono ?_
  rintro e w3 ⟨rfl,hb3⟩
  have hB3:=Lib.hid (hB2.out.trans (hb3.mono hB2.out.size))
  have b03:=H02.out.later hb3
  have b13:=H12.out.later hb3
  have H03:=Lib.hid b03
  have H13:=Lib.hid b13
  clear b03 b13
  clear hb3
  clear c00 f00 c01 f01 c02 f02 c03 f03 c04 f04 z0 c10 f10 c11 f11 c12 f12 c13 f13 c14 f14 z1
  obtain⟨c00,f00,c01,f01,c02,f02,c03,f03,c04,f04,z0⟩:=H03.out.x5
  obtain⟨c10,f10,c11,f11,c12,f12,c13,f13,c14,f14,z1⟩:=H13.out.x5
  go_wp2_with fail
  refine(C4.out _).mono ?_
  rintro e w4 ⟨rfl,hb4⟩
  have hB4:=Lib.hid (hB3.out.trans (hb4.mono hB3.out.size))
  have b04:=H03.out.later hb4
  have b14:=H13.out.later hb4
  have H04:=Lib.hid b04
  have H14:=Lib.hid b14
  clear b04 b14
  clear hb4
  clear c00 f00 c01 f01 c02 f02 c03 f03 c04 f04 z0 c10 f10 c11 f11 c12 f12 c13 f13 c14 f14 z1
  obtain⟨c00,f00,c01,f01,c02,f02,c03,f03,c04,f04,z0⟩:=H04.out.x5
  obtain⟨c10,f10,c11,f11,c12,f12,c13,f13,c14,f14,z1⟩:=H14.out.x5
  go_wp2_with fail
  have b':=(((((H14.out.set 0 (.int .i64 0)).set 1 (.int .u32 0)).set 2 (.int .i64 0)).set 3 (.int .u64 se)).set 4 (.int .u64 ep))
  have hB':=(((((hB4.out.setCell (p:=⟨w.heap.size+1,0,none⟩) (by dsimp only;omega) (.int .i64 0)).setCell (p:=⟨w.heap.size+1,1,none⟩) (by dsimp only;omega) (.int .u32 0)).setCell (p:=⟨w.heap.size+1,2,none⟩) (by dsimp only;omega) (.int .i64 0)).setCell (p:=⟨w.heap.size+1,3,none⟩) (by dsimp only;omega) (.int .u64 se)).setCell (p:=⟨w.heap.size+1,4,none⟩) (by dsimp only;omega) (.int .u64 ep))
  have gg:=b'.x5
  exact bodyPost_ret (v:=.tuple #[.agg #[.int .i64 0,.int .u32 0,.int .i64 0,.int .u64 se,.int .u64 ep],.int .i64 0]) (by simp[results,Tryz.results71,go_sem,gg]) rfl ⟨rfl,hB'⟩
end Go.Proofs.YtlckmjiioohcmaaGreatDoor
