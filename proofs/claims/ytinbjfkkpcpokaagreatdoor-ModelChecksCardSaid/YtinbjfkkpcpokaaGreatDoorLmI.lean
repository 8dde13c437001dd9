/-
  For ModelOne: tickets as elements of a slice; a replied ticket's numbers lie in their kinds; walk of groundlinglaw23.valid. Conditions: as each theorem says.
-/
import Derived.Test.YtinbjfkkpcpokaaGreatDoorPlMo
import Derived.Test.YtinbjfkkpcpokaaGreatDoorLmG
namespace Go.Proofs.YtinbjfkkpcpokaaGreatDoor
open Go.RowKit

def tkR : Rep Tk where
  size := 4
  is _ cs x := cs = tkCells x ∧ TkOk x
  len h := by rw [h.1]; rfl
  one h := by rw [h.1]; simp [tkCells, Value.oneCell']
  up _ h := h
theorem tkR_flat : tkR.flat := fun _ _ _ _ h => h
theorem tk_one (w : World) (g : Nat) (t : Tk) (hg : g = w.heap.size) (ht : TkOk t) : Sl tkR (w.alloc (.cells (tkCells t).toArray 54)) (.slice (some ⟨g, 0, none⟩) 1 1) [t] :=
  (Own.lit (R := tkR) (B := 0) (e := 54) (w := w) (cells := tkCells t) (xs := [t]) hg (Nat.zero_le _) (Rep.many_one (R := tkR) ⟨rfl, ht⟩) rfl (by simp)).sl
theorem infoTk : (Tryz.prog.info? 54).map (fun i => (i.zero, i.size, i.bytes)) = some (some (.agg #[.int .u32 0, .int .u32 0, .int .u64 0, .int .u64 0]), tkR.size, 24) := by kernel_rfl
theorem bo_one (w : World) (g : Nat) (b : Bool) (hg : g = w.heap.size) : Sl boR (w.alloc (.cells #[.bool b] 4)) (.slice (some ⟨g, 0, none⟩) 1 1) [b] :=
  (Own.lit (R := boR) (B := 0) (e := 4) (w := w) (cells := [.bool b]) (xs := [b]) hg (Nat.zero_le _) (Rep.many_one (R := boR) rfl) rfl (by simp)).sl
/-- A replied ticket's numbers lie in their kinds. -/
theorem tk_ok {W : World} {F : MFrm} {s : Md} {op : MOp} (h : IsMd W F (doM s op).1) (hok : MdOk s) : TkOk (doM s op).2.1.tk := by
  rcases do_tk s op with h0 | ⟨k, hk, h1⟩
  · rw [h0]; simp [TkOk, noTk, U32, U64]
  · obtain ⟨_, _, _, _, _, hx⟩ := h.seatIn (i := k) (by rw [(LaterM.do_ s op).1]; exact hk)
    have := hok.len
    rw [h1]
    exact ⟨⟨by show (0 : Int) ≤ (k : Int); omega, by show (k : Int) ≤ _; omega⟩, hx.2.1, hx.2.2.2.1, hx.2.2.2.2⟩

/-- What ModelOne holds of the world: the state's box, the state, the tickets, their marks. -/
def OneSt (lo q : Nat) (w W : World) (va vg : Value) (als : List Tk) (G : List Bool) (hs : Array Value) (F : MFrm) (s : Md) : Prop :=
  Below w.heap.size w W ∧ BoxN W q 29 hs ∧ MdKeep lo W F s ∧ Own tkR 54 lo W va als ∧ Own boR 4 lo W vg G
theorem OneSt.addT {lo q : Nat} {w z y : World} {va vg v : Value} {als bls : List Tk} {G : List Bool} {hs : Array Value} {F : MFrm} {s : Md} (h : OneSt lo q w z va vg als G hs F s) (hl : w.heap.size ≤ lo) {o : Obj} (hg : (z.alloc o).grownBy y va.ownBlock) (ho : Own tkR 54 lo y v bls) :
    OneSt lo q w y v vg bls G hs F s := by
  obtain ⟨h1, h2, h3, h4, h5⟩ := h
  have hb := ba z o
  have hA := h4.up hb
  have hG := h5.up hb
  have h6 := h1.size
  have h7 : z.heap.size ≤ (z.alloc o).heap.size := hb.size
  exact ⟨(h1.trans (hb.mono h1.size)).grown hg (Nat.le_trans h6 h7) (fun j hj => Nat.le_trans hl (hA.lt j hj).1), (h2.later hb).kept_own hg hA (by decide), h3.up ((Loose.of hb).trans (Loose.own hg hA (Nat.le_refl _) (by decide) (by decide) (by decide))), ho, hG.kept hg (hG.apart hA (by decide)) (fun _ _ h => h)⟩
theorem OneSt.addG {lo q : Nat} {w z y : World} {va vg v : Value} {als : List Tk} {G H : List Bool} {hs : Array Value} {F : MFrm} {s : Md} (h : OneSt lo q w z va vg als G hs F s) (hl : w.heap.size ≤ lo) {o : Obj} (hg : (z.alloc o).grownBy y vg.ownBlock) (ho : Own boR 4 lo y v H) :
    OneSt lo q w y va v als H hs F s := by
  obtain ⟨h1, h2, h3, h4, h5⟩ := h
  have hb := ba z o
  have hA := h4.up hb
  have hG := h5.up hb
  have h6 := h1.size
  have h7 : z.heap.size ≤ (z.alloc o).heap.size := hb.size
  exact ⟨(h1.trans (hb.mono h1.size)).grown hg (Nat.le_trans h6 h7) (fun j hj => Nat.le_trans hl (hG.lt j hj).1), (h2.later hb).kept_own hg hG (by decide), h3.up ((Loose.of hb).trans (Loose.own hg hG (Nat.le_refl _) (by decide) (by decide) (by decide))), hA.kept hg (hA.apart hG (by decide)) (fun _ _ h => h), ho⟩

set_option maxRecDepth 20000 in
set_option maxHeartbeats 4000000 in
theorem valid_any (lo : Nat) (F : MFrm) (s : Md) (t : Tk) (w : World) (hk : MdKeep lo w F s) (hlo : lo ≤ w.heap.size) (hok : MdOk s) (ht : TkOk t) (hu : UsesAt w) :
    Calls Tryz.prog 34 #[mdV F s, .agg (tkCells t).toArray] w fun e w' => e = .returned (.bool (validM s t)) ∧ Below w.heap.size w w' := by
  have HVL := Lib.hid (doM_val s t)
  have POP : OpOk (valOp t) := ⟨by simp [valOp, Bd], by simp [valOp, U32], by simp [valOp, Bd], by simp [valOp, Bd], by simp [valOp, Bd], by simp [valOp, Bd], by simp [valOp, U32], ht, by simp [valOp, Bd]⟩
  have CD := Lib.hid (fun W (hb : Below w.heap.size w W) => mDo_any lo F s (valOp t) W (hk.up (Loose.of hb)) (Nat.le_trans hlo hb.size) (md_small hok) POP (hu.up hb hu.1))
  unfold MDoPost at CD
  rw [mdoM_ok hok] at CD
  clear hk hu hok POP ht hlo
  generalize validM s t = M at HVL ⊢
  generalize doM s (valOp t) = N at CD HVL
  obtain ⟨s', r, f⟩ := N
  simp only at CD HVL
  have hf := HVL.out.2.1
  subst hf
  have HR := Lib.hid (HVL.out.2.2)
  clear HVL
  have S7 := Lib.hid (show (Tryz.prog.info? 29).map (·.size) = some (mdCells F s).length by kernel_rfl)
  have MVk := Lib.hid (show mdV F s = .agg (mdCells F s).toArray from rfl)
  rw [MVk.out] at CD ⊢
  obtain ⟨ms, hms⟩ : ∃ ms : List Value, ms = mdCells F s := ⟨_, rfl⟩
  rw [← hms] at CD S7 ⊢
  clear hms MVk
  obtain ⟨ts, oo, tse, tep⟩ := t
  unfold tkCells
  go_enter Tryz.func34, Tryz.ntmps34
  go_upto_region 1 with fail
  obtain ⟨q, hq⟩ : ∃ q, w.heap.size = q := ⟨_, rfl⟩
  rw [hq]
  refine at_world (fun X => Below w.heap.size w X ∧ BoxN X q 29 ms.toArray ∧ BoxN X (q + 1) 54 #[.int .u32 ts, .int .u32 oo, .int .u64 tse, .int .u64 tep]) (two_boxes hq _ _ _ _) fun w0 hw0 => ?_
  have B0 := Lib.hid hw0.1
  have K0 := Lib.hid hw0.2.1
  have y0 := hw0.2.2.cell 0 _ rfl
  have y1 := hw0.2.2.cell 1 _ rfl
  have y2 := hw0.2.2.cell 2 _ rfl
  have y3 := hw0.2.2.cell 3 _ rfl
  have zy := hw0.2.2.lt
  clear hw0 hq
  go_wp2_with (refine wpList_load_mid rfl 29 (.tmp 2) rfl q 0 rfl ms _ K0.out.range2 Tryz.underlying29 rfl S7.out ?_)
  refine (CD.out _ B0.out).mono ?_
  rintro e x2 ⟨F', rfl, hb, _⟩
  have B1 := Lib.hid (B0.out.trans (hb.mono B0.out.size))
  clear hb CD K0 y0 y1 y2 y3 zy B0 S7
  have S9A := Lib.hid (show (Tryz.prog.info? 29).map (·.size) = some (mdCells F' s').toArray.size by kernel_rfl)
  have O9 := Lib.hid (show (mdCells F' s').toArray.all (·.oneCell') = true by simp [mdCells, Value.oneCell'])
  have L9 := Lib.hid (show (mdCells F' s').toArray.size = 7 by rfl)
  have S8A := Lib.hid (show (Tryz.prog.info? 56).map (·.size) = some (rpCells r).toArray.size by kernel_rfl)
  have O8 := Lib.hid (show (rpCells r).toArray.all (·.oneCell') = true by simp [rpCells, Value.oneCell'])
  have L8 := Lib.hid (show (rpCells r).toArray.size = 9 by rfl)
  have V8 := Lib.hid (show RpV r = .agg (rpCells r).toArray from rfl)
  have V9 := Lib.hid (show mdV F' s' = .agg (mdCells F' s').toArray from rfl)
  rw [V9.out, V8.out]
  obtain ⟨hs, hhs⟩ : ∃ hs : List Value, hs = mdCells F' s' := ⟨_, rfl⟩
  obtain ⟨rs, hrs⟩ : ∃ rs : List Value, rs = rpCells r := ⟨_, rfl⟩
  rw [← hhs, ← hrs]
  rw [← hhs] at S9A O9 L9
  rw [← hrs] at S8A O8 L8
  have HRS := Lib.hid hrs
  clear hhs hrs V8 V9
  go_upto_region 2 with (first | refine wpList_store_row rfl 29 (.tmp 5) (.tmp 13) rfl x2.heap.size hs.toArray rfl rfl 29 _ (two_boxes rfl _ _ _ _).2.1 S9A.out L9.out.symm O9.out ?_ | refine wpList_store_row rfl 56 (.tmp 6) (.tmp 14) rfl (x2.heap.size + 1) rs.toArray rfl rfl 56 _ (two_rows (two_boxes rfl _ _ _ _).2.1 (two_boxes rfl _ _ _ _).2.2 (by omega) _ #[]).1 S8A.out L8.out.symm O8.out ?_)
  have htb := two_boxes (W := x2) rfl #[.int .i64 0, .int .i64 0, .int .i64 0, .slice none 0 0, .int .i64 0, .slice none 0 0, .slice none 0 0] #[.int .i64 0, .int .i64 0, .int .i64 0, .int .i64 0, .int .u32 0, .int .u32 0, .int .u64 0, .int .u64 0, .int .i64 0] 29 56
  have hrow := two_rows htb.2.1 htb.2.2 (by omega) hs.toArray rs.toArray
  have hbw : Below x2.heap.size x2 _ := (htb.1.grown hrow.2.1 htb.1.size (fun k hk => by injection hk with hk; omega)).grown hrow.2.2.1 (Nat.le_trans htb.1.size hrow.2.1.size) (fun k hk => by injection hk with hk; omega)
  refine at_world (fun X => Below x2.heap.size x2 X ∧ BoxN X (x2.heap.size + 1) 56 rs.toArray) ⟨hbw, hrow.2.2.2.2⟩ fun y hX => ?_
  clear htb hrow hbw S9A O9 L9 S8A O8 L8
  have B2 := Lib.hid (B1.out.trans (hX.1.mono B1.out.size))
  have h9 := hX.2
  rw [HRS.out] at h9
  have u0 := h9.cell 0 (.int .i64 r.err) rfl
  have z9 := h9.lt
  clear hX h9 HRS B1
  by_cases he : r.err = 0
  · have hM : M = true := HR.out.1 he
    have t1 : (r.err == 0) = true := by simpa using he
    clear he HR
    go_wp2_with fail
    go_ret
    exact ⟨by rw [hM]; rfl, B2.out⟩
  · have hM : M = false := by
      cases M
      · rfl
      · exact absurd (HR.out.2 rfl) he
    have t1 : (r.err == 0) = false := by simpa using he
    clear he HR
    go_wp2_with fail
    go_ret
    exact ⟨by rw [hM]; rfl, B2.out⟩
end Go.Proofs.YtinbjfkkpcpokaaGreatDoor
