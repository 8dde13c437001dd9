/-
  Walks of the audit reader's method late, and of is at written kinds. Conditions: as each theorem says.
-/
import Derived.Test.YtlckmjiioohcmaaGreatDoorAuA
namespace Go.Proofs.YtlckmjiioohcmaaGreatDoor
open Go.RowKit
theorem sl_lit (w:World) (xs:List Int) (t:TypeId) (hb:∀x,x∈xs→Bd x) (hl:xs.length≤1000):Sl intR (w.alloc (.cells (xs.map (Value.int .i64)).toArray t)) (.slice (some ⟨w.heap.size,0,none⟩) xs.length xs.length) xs:=
 Own.sl (Own.lit (e:=t) (n:=xs.length) (B:=0) (cells:=xs.map (Value.int .i64)) rfl (by omega) (many_ints hb) rfl (by omega))
theorem isL (g:Nat) (kind:Int) (ks:List Int) (W:World) (hk:W.cell? ⟨g,7,none⟩=some (.int .i64 kind)) (hb:∀x,x∈ks→Bd x) (hl:ks.length≤1000):
 Calls Tryz.prog 115 #[.pointer (some ⟨g,0,none⟩),.slice (some ⟨W.heap.size,0,none⟩) ks.length ks.length] (W.alloc (.cells (ks.map (Value.int .i64)).toArray 3)) fun e w'=>e=.returned (.bool (isB ks kind))∧Below W.heap.size W w':=
 (is_any g kind _ ks _ (cell_later (ba _ _) hk) (sl_lit W ks 3 hb hl)).mono fun _ _ ⟨h1,h2⟩=>⟨h1,h2▸ba _ _⟩
def lateA (ve:Ve) (now kind deadline:Int):Bool:=isB [1,2,3] kind&&(deadline !=if isB [1] kind then(addT now ve.session).1 else(addT now ve.ttl).1)
set_option maxHeartbeats 1000000 in
theorem late_any (g:Nat) (ve:Ve) (now kind deadline:Int) (W:World) (h1:W.cell? ⟨g,1,none⟩=some (.int .i64 ve.ttl)) (h2:W.cell? ⟨g,2,none⟩=some (.int .i64 ve.session)) (h4:W.cell? ⟨g,4,none⟩=some (.int .i64 now)) (h7:W.cell? ⟨g,7,none⟩=some (.int .i64 kind))
 (hd:W.cell? ⟨g,22,none⟩=some (.int .i64 deadline)) (b1:Bd ve.ttl) (b2:Bd ve.session) (b3:Bd now):
 Calls Tryz.prog 156 #[.pointer (some ⟨g,0,none⟩)] W fun e w'=>e=.returned (.bool (lateA ve now kind deadline))∧Below W.heap.size W w':=by
 have hg:=World.block_lt_of_cell? _ _ h1
 have C1:=Lib.hid (fun w (hb:Below W.heap.size W w)=>isL g kind [1] w (cell_later hb h7) (by simp[Bd]) (by simp))
 have C2:=Lib.hid (fun w (hb:Below W.heap.size W w)=>isL g kind [1,2,3] w (cell_later hb h7) (by simp[Bd]) (by simp))
 have C3:=Lib.hid (fun w=>add_any now ve.session w b3 b2)
 have C4:=Lib.hid (fun w=>add_any now ve.ttl w b3 b1)
 have hT:=Lib.hid (show lateA ve now kind deadline=(isB [1,2,3] kind&&(deadline !=if isB [1] kind then(addT now ve.session).1 else(addT now ve.ttl).1)) from rfl)
 generalize lateA ve now kind deadline=L at hT⊢
 generalize isB [1] kind=q1 at C1 hT
 generalize isB [1,2,3] kind=q2 at C2 hT
 generalize addT now ve.session=D1 at C3 hT
 generalize addT now ve.ttl=D2 at C4 hT
 obtain⟨D1,E1⟩:=D1
 obtain⟨D2,E2⟩:=D2
 clear b1 b2 b3 h7
 cases q1 with
 |true=>
  cases q2 with
  |true=>
   go_enter Tryz.func156,Tryz.ntmps156
   go_wp2_with fail
   refine(C1.out W (Below.refl _ _)).mono ?_
   rintro e w1 ⟨rfl,hb1⟩
   have c1:=cell_later hb1 h1
   have c2:=cell_later hb1 h2
   have c4:=cell_later hb1 h4
   have y1:g<w1.heap.size:=Nat.lt_of_lt_of_le hg hb1.size
   go_wp2_with fail
   refine(C3.out w1).mono ?_
   rintro e w2 ⟨rfl,hb2⟩
   have hb2':Below W.heap.size W w2:=hb1.trans (hb2.mono hb1.size)
   clear c1 c2 c4 y1
   go_wp2_with fail
   refine(C2.out w2 hb2').mono ?_
   rintro e w3 ⟨rfl,hb3⟩
   have hb3':Below W.heap.size W w3:=hb2'.trans (hb3.mono hb2'.size)
   have cd:=cell_later hb3' hd
   have y3:g<w3.heap.size:=Nat.lt_of_lt_of_le hg hb3'.size
   go_wp2_with fail
   go_ret
   exact⟨ret_bool (by rw[hT.out];rfl),hb3'⟩
  |false=>
   go_enter Tryz.func156,Tryz.ntmps156
   go_wp2_with fail
   refine(C1.out W (Below.refl _ _)).mono ?_
   rintro e w1 ⟨rfl,hb1⟩
   have c1:=cell_later hb1 h1
   have c2:=cell_later hb1 h2
   have c4:=cell_later hb1 h4
   have y1:g<w1.heap.size:=Nat.lt_of_lt_of_le hg hb1.size
   go_wp2_with fail
   refine(C3.out w1).mono ?_
   rintro e w2 ⟨rfl,hb2⟩
   have hb2':Below W.heap.size W w2:=hb1.trans (hb2.mono hb1.size)
   clear c1 c2 c4 y1
   go_wp2_with fail
   refine(C2.out w2 hb2').mono ?_
   rintro e w3 ⟨rfl,hb3⟩
   have hb3':Below W.heap.size W w3:=hb2'.trans (hb3.mono hb2'.size)
   have cd:=cell_later hb3' hd
   have y3:g<w3.heap.size:=Nat.lt_of_lt_of_le hg hb3'.size
   go_wp2_with fail
   go_ret
   exact⟨ret_bool (by rw[hT.out];rfl),hb3'⟩
 |false=>
  cases q2 with
  |true=>
   go_enter Tryz.func156,Tryz.ntmps156
   go_wp2_with fail
   refine(C1.out W (Below.refl _ _)).mono ?_
   rintro e w1 ⟨rfl,hb1⟩
   have c1:=cell_later hb1 h1
   have c2:=cell_later hb1 h2
   have c4:=cell_later hb1 h4
   have y1:g<w1.heap.size:=Nat.lt_of_lt_of_le hg hb1.size
   go_wp2_with fail
   refine(C4.out w1).mono ?_
   rintro e w2 ⟨rfl,hb2⟩
   have hb2':Below W.heap.size W w2:=hb1.trans (hb2.mono hb1.size)
   clear c1 c2 c4 y1
   go_wp2_with fail
   refine(C2.out w2 hb2').mono ?_
   rintro e w3 ⟨rfl,hb3⟩
   have hb3':Below W.heap.size W w3:=hb2'.trans (hb3.mono hb2'.size)
   have cd:=cell_later hb3' hd
   have y3:g<w3.heap.size:=Nat.lt_of_lt_of_le hg hb3'.size
   go_wp2_with fail
   go_ret
   exact⟨ret_bool (by rw[hT.out];rfl),hb3'⟩
  |false=>
   go_enter Tryz.func156,Tryz.ntmps156
   go_wp2_with fail
   refine(C1.out W (Below.refl _ _)).mono ?_
   rintro e w1 ⟨rfl,hb1⟩
   have c1:=cell_later hb1 h1
   have c2:=cell_later hb1 h2
   have c4:=cell_later hb1 h4
   have y1:g<w1.heap.size:=Nat.lt_of_lt_of_le hg hb1.size
   go_wp2_with fail
   refine(C4.out w1).mono ?_
   rintro e w2 ⟨rfl,hb2⟩
   have hb2':Below W.heap.size W w2:=hb1.trans (hb2.mono hb1.size)
   clear c1 c2 c4 y1
   go_wp2_with fail
   refine(C2.out w2 hb2').mono ?_
   rintro e w3 ⟨rfl,hb3⟩
   have hb3':Below W.heap.size W w3:=hb2'.trans (hb3.mono hb2'.size)
   have cd:=cell_later hb3' hd
   have y3:g<w3.heap.size:=Nat.lt_of_lt_of_le hg hb3'.size
   go_wp2_with fail
   go_ret
   exact⟨ret_bool (by rw[hT.out];rfl),hb3'⟩
end Go.Proofs.YtlckmjiioohcmaaGreatDoor
