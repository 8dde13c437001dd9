/-
  Walk of the document's Cycle (package groundlingref14). Conditions: as the theorem says.
-/
import Derived.Test.YtgmjfmajdnoogaaLkS
import Derived.Test.YtgmjfmajdnoogaaPlCycC
namespace Go.Proofs.Ytgmjfmajdnoogaa
open Go.RowKit

theorem aft_bd {s : St} (hb : ∀ x, x ∈ s.hs → Bd x) (t : Int) : Bd (aft s t) := by
  unfold aft
  split
  · rename_i x _
    rw [List.getD_eq_getElem?_getD]
    cases e : s.hs[x.lock.toNat]? with
    | none => simp [Bd]
    | some y => exact hb y (List.mem_of_getElem? e)
  · simp [Bd]

set_option maxHeartbeats 2000000 in
set_option maxRecDepth 4000 in
theorem rcycle_any (v1 v2 : Value) (s : St) (w : World) (h1 : Sl intR w v1 s.hs) (h2 : Sl wtR w v2 s.ws) :
    Calls Try.prog 41 #[.agg #[v1, v2]] w fun e w' => ∃ v, e = .returned (.tuple #[v, .int .i64 (cycS s).2]) ∧ Sl intR w' v (cycS s).1 ∧ Below w.heap.size w w' := by
  obtain ⟨A, c, rfl, hc, hm, h1⟩ := h1.open
  obtain ⟨A', c', rfl, _, hm', h2⟩ := h2.open
  have C1 := Lib.hid (fun W (hb : Below w.heap.size w W) => rcheck_any _ _ s W (h1.up hb) (h2.up hb))
  rw [← rcyc_eq]
  by_cases q1 : chk s = 0
  · have hin := fun k hk => (lock_in q1 (k := k) hk).2
    have C2 := Lib.hid (fun W t (hb : Below w.heap.size w W) => rafter_any _ _ s t W (h1.up hb) (h2.up hb) hin)
    have hbf := Lib.hid (aft_bd (s := s) (sl_bd h1))
    have H1 := Lib.hid q1
    have hT := Lib.hid (show rcycS s = (((List.range 200).findSome? fun i : Nat => rone s ((i : Int) + 1)).getD [], 0) by rw [rcycS, if_neg (by rw [H1.out]; simp)])
    clear q1 h1 h2 hin
    go_enter Try.func41, Try.ntmps41
    go_wp2_with (go_at_call 42; refine (C1.out _ (ba _ _)).mono ?_; rw [H1.out]; rintro e w1 ⟨rfl, hb1⟩; have k0 := box_cell hb1 0 _ rfl; have k1 := box_cell hb1 1 _ rfl; have hz1 := box_lt hb1; have HB1 := Lib.hid ((ba w _).trans (hb1.mono (by simp))))
    clear hb1
    go_loopg [5] 200 (fun g i wq => ∃ j : Nat, j + g = 200 ∧ i = .int .i64 ((j : Int) + 1) ∧ Hid (Below w1.heap.size w1 wq) ∧ Hid (∀ i : Nat, i < j → rone s ((i : Int) + 1) = none))
    case atStart => exact ⟨0, by omega, by go_num, Below.refl _ _, fun i hi => by omega⟩
    case round =>
      obtain ⟨j, hjg, rfl, hb, hall⟩ := hrel
      have HBw := Lib.hid (HB1.out.trans (hb.out.mono HB1.out.size))
      have l0 := cell_later hb.out k0
      have l1 := cell_later hb.out k1
      have hzr : w.heap.size < wr.heap.size := Nat.lt_of_lt_of_le hz1 hb.out.size
      by_cases hlt : j < 200
      · have hx := Lib.hid (show rchase (aft s) ((j : Int) + 1) 201 (aft s ((j : Int) + 1)) [(j : Int) + 1] = rone s ((j : Int) + 1) from rfl)
        have hbj : Bd ((j : Int) + 1) := by unfold Bd; omega
        go_wp2_with (go_at_call 56; refine (C2.out _ ((j : Int) + 1) (HBw.out.trans ((ba _ _).mono HBw.out.size))).mono ?_; rintro e w2 ⟨rfl, hb2⟩)
        obtain ⟨wo, rfl⟩ : ∃ wo : World, wo = wr := ⟨_, rfl⟩
        obtain ⟨gi, rfl⟩ : ∃ gi : Nat, gi = gk := ⟨_, rfl⟩
        go_loopg [6, 7] 201 (fun g' v t wq => ∃ (out : List Int) (tt : Int), t = .int .i64 tt ∧ out.length + g' = 202 ∧ 1 ≤ out.length ∧ out.length ≤ 201 ∧ Hid (Bd tt) ∧ Hid (Own intR 3 w1.heap.size wq v out) ∧ Hid (Below w1.heap.size w1 wq) ∧
          Hid (rchase (aft s) ((j : Int) + 1) g' tt out = rone s ((j : Int) + 1)))
        case atStart =>
          refine ⟨[(j : Int) + 1], aft s ((j : Int) + 1), rfl, by simp, by simp, by simp, hbf.out _, ?_, hb.out.trans (((ba _ _).trans (hb2.mono (by simp))).mono hb.out.size), hx.out⟩
          exact (Own.lit (e := 3) (B := w1.heap.size) (n := 1) (w := wo) (cells := [.int .i64 ((j : Int) + 1)]) rfl hb.out.size (many_one_int _ hbj) rfl (by omega)).up hb2
        case round =>
          clear l0 l1 hzr hb2
          obtain ⟨out, tt, rfl, hlen, h1o, h2o, hbt, hown, hbq, hch⟩ := hrel
          have l0 := cell_later hbq.out k0
          have l1 := cell_later hbq.out k1
          have hzr : w.heap.size < wr.heap.size := Nat.lt_of_lt_of_le hz1 hbq.out.size
          have HBq := Lib.hid (HB1.out.trans (hbq.out.mono HB1.out.size))
          obtain ⟨gg, rfl⟩ : ∃ gg, gk = gg + 1 := ⟨gk - 1, by omega⟩
          have hch' := hch.out
          rw [rchase] at hch'
          obtain ⟨Ao, co, hvo, hoc, hocm, hown'⟩ := hown.out.form
          subst hvo
          by_cases c2 : tt = 0
          · have c2' : (tt != 0) = false := by simpa using c2
            rw [if_pos (.inl c2)] at hch'
            have HC := Lib.hid hch'
            clear c2 hch' hown' hch
            go_wp2_with fail
            go_roundg (gi - 1)
            case rel =>
              refine ⟨j + 1, by omega, by go_num, hbq.out, fun i hi => ?_⟩
              by_cases e : i = j
              · subst e; exact HC.out.symm
              · exact hall.out i (by omega)
            case measure => omega
          · have c2' : (tt != 0) = true := by simpa using c2
            by_cases c3 : 200 < out.length
            · rw [if_pos (.inr c3)] at hch'
              have HC := Lib.hid hch'
              clear c2 hch' hown' hch
              go_wp2_with fail
              go_roundg (gi - 1)
              case rel =>
                refine ⟨j + 1, by omega, by go_num, hbq.out, fun i hi => ?_⟩
                by_cases e : i = j
                · subst e; exact HC.out.symm
                · exact hall.out i (by omega)
              case measure => omega
            · rw [if_neg (by simp [c2, c3])] at hch'
              by_cases c1 : tt = (j : Int) + 1
              · rw [if_pos c1] at hch'
                have c1' : (tt == (j : Int) + 1) = true := by simpa using c1
                have HC := Lib.hid hch'
                have HO := Lib.hid hown'
                clear c1 c2 hch' hch hown'
                go_wp2_with fail
                go_ret2
                rw [hT.out]
                refine ⟨_, rfl, ?_, HBq.out⟩
                have hf : (List.range 200).findSome? (fun i : Nat => rone s ((i : Int) + 1)) = some out := findSome_hit (j := j) (by simpa using hlt) (by simpa using HC.out.symm) fun i hi hi' => by simpa using hall.out i hi
                rw [hf]
                exact HO.out.sl
              · rw [if_neg c1] at hch'
                have c1' : (tt == (j : Int) + 1) = false := by simpa using c1
                have HC := Lib.hid hch'
                clear c1 c2 hch' hch hown'
                go_wp2_with (first
                  | (at_builtin; refine wpList_append_sl _ rfl (.tmp 36) (.tmp 38) 22 rfl intR w1.heap.size 3 _ 8 Try.underlying22 infoI rfl (by decide) _ out rfl (hown.out.up (ba _ _)) _ [tt] rfl (sl_one _ _ _ _ rfl hbt.out) (by rw [List.length_singleton]; omega) (by decide) (by simp; exact Nat.le_succ_of_le hbq.out.size) (fun w' _ cs y h => intR_flat _ _ _ _ h) ?_; intro v1 w4 hown1 hg1 hat1; have hb4 := Lib.hid ((hbq.out.trans ((ba wr _).mono hbq.out.size)).grown hg1 (by simp; exact Nat.le_succ_of_le hbq.out.size) fun i hi => (hown.out.lt i hi).1); have m0 := cell_later hb4.out k0; have m1 := cell_later hb4.out k1; have hz4 : w.heap.size < w4.heap.size := Nat.lt_of_lt_of_le hz1 hb4.out.size; clear l0 l1 hzr)
                  | (go_at_call 56; refine (C2.out _ tt (HB1.out.trans (hb4.out.mono HB1.out.size))).mono ?_; rintro e w5 ⟨rfl, hb5⟩))
                go_roundg gg
                case rel => exact ⟨out ++ [tt], aft s tt, rfl, by rw [List.length_append, List.length_singleton]; omega, by rw [List.length_append]; omega, by rw [List.length_append, List.length_singleton]; omega, hbf.out _, hown1.up hb5, hb4.out.trans (hb5.mono hb4.out.size), HC.out⟩
                case measure => omega
      · go_wp2_with fail
        go_ret2
        rw [hT.out]
        refine ⟨_, rfl, ?_, HBw.out⟩
        have hf : (List.range 200).findSome? (fun i : Nat => rone s ((i : Int) + 1)) = none := List.findSome?_eq_none_iff.2 fun i hi => hall.out i (by have := List.mem_range.1 hi; omega)
        rw [hf]
        exact Sl.none _ _
  · have hn : (chk s != 0) = true := by simpa using q1
    have hT := Lib.hid (show rcycS s = ([], chk s) by rw [rcycS, if_pos q1])
    clear q1 h1 h2
    go_enter Try.func41, Try.ntmps41
    go_wp2_with (go_at_call 42; refine (C1.out _ (ba _ _)).mono ?_; rintro e w1 ⟨rfl, hb1⟩)
    go_ret2
    rw [hT.out]
    exact ⟨_, rfl, Sl.none _ _, (ba _ _).trans (hb1.mono (by simp))⟩
end Go.Proofs.Ytgmjfmajdnoogaa
