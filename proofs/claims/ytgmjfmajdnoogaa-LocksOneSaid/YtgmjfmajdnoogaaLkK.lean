/-
  Walk of locks.Cycle. Conditions: as the theorem says.
-/
import Derived.Test.YtgmjfmajdnoogaaLkJ
import Derived.Test.YtgmjfmajdnoogaaLibM
namespace Go.Proofs.Ytgmjfmajdnoogaa
open Go.RowKit Go.Maps

/-- The map that Cycle fills: from the first waits. -/
def nxt (hs : List Int) (l : List Wt) : Int → Int := l.foldl (fun f x => upd f x.task (hs.getD x.lock.toNat 0)) (fun _ => 0)
/-- From a task on, until the first one comes again. -/
def chase (f : Int → Int) (N : Nat) (a : Int) : Nat → Int → List Int → Option (List Int)
  | 0, _, _ => none
  | g + 1, t, out => if t = a then some out else if t = 0 ∨ N < out.length then none else chase f N a g (f t) (out ++ [t])
def chaseW (f : Int → Int) (N : Nat) (x : Wt) : Option (List Int) := chase f N x.task (N + 2) (f x.task) [x.task]
def cycS (s : St) : List Int × Int := if chk s ≠ 0 then ([], chk s) else ((s.ws.findSome? (chaseW (nxt s.hs s.ws) s.ws.length)).getD [], 0)

theorem keyI : Keyed Try.prog 3 := int_keyed Try.underlying3
theorem zeroI (w : World) : (zeroValue 3).run Try.prog w = .ok (.int .i64 0) w := by kernel_rfl

theorem tsk_bd {t : Int} (h : tsk t = true) : 1 ≤ t ∧ t ≤ 200 := by simp [tsk] at h; omega

theorem nxt_bd {hs : List Int} (hb : ∀ x, x ∈ hs → Bd x) : ∀ (l : List Wt) (f : Int → Int), (∀ t, Bd (f t)) → ∀ t, Bd (l.foldl (fun f x => upd f x.task (hs.getD x.lock.toNat 0)) f t)
  | [], f, h, t => h t
  | x :: l, f, h, t => nxt_bd hb l _ (fun u => by
      show Bd (if u = x.task then _ else _)
      split
      · rw [List.getD_eq_getElem?_getD]
        cases e : hs[x.lock.toNat]? with
        | none => simp [Bd]
        | some y => exact hb y (List.mem_of_getElem? e)
      · exact h u) t

theorem sl_bd {w : World} {v : Value} {xs : List Int} (h : Sl intR w v xs) : ∀ x, x ∈ xs → Bd x := by
  intro x hx
  obtain ⟨A, c, rfl, _, _, h⟩ := h.open
  obtain ⟨j, hj, rfl⟩ := List.getElem_of_mem hx
  obtain ⟨_, _, _, _, _, hb⟩ := h.atI hj
  exact hb
theorem many_one_int {w : World} (x : Int) (h : Bd x) : intR.many w [.int .i64 x] [x] := ⟨[.int .i64 x], [], rfl, ⟨rfl, h⟩, rfl⟩

theorem findSome_hit {α β : Type} {f : α → Option β} : ∀ {l : List α} {j : Nat} (hj : j < l.length) {b : β}, f l[j] = some b → (∀ i, (hi : i < j) → (hi' : i < l.length) → f l[i] = none) → l.findSome? f = some b
  | [], j, hj, _, _, _ => by simp at hj
  | x :: l, 0, _, b, h, _ => by simp at h; simp [h]
  | x :: l, j + 1, hj, b, h, hn => by
    have h0 : f x = none := hn 0 (by omega) (by simp)
    rw [List.findSome?_cons, h0]
    exact findSome_hit (by simpa using hj) (by simpa using h) fun i hi hi' => by
      have := hn (i + 1) (by omega) (by simpa using hi')
      simpa using this

set_option maxHeartbeats 2000000 in
theorem cycle_any (v1 v2 : Value) (s : St) (w : World) (h1 : Sl intR w v1 s.hs) (h2 : Sl wtR w v2 s.ws) :
    Calls Try.prog 10 #[.agg #[v1, v2]] w fun e w' => ∃ v, e = .returned (.tuple #[v, .int .i64 (cycS s).2]) ∧ Sl intR w' v (cycS s).1 ∧ Below w.heap.size w w' := by
  obtain ⟨A, c, rfl, hc, hm, h1⟩ := h1.open
  obtain ⟨A', c', rfl, _, hm', h2⟩ := h2.open
  have hl : s.hs.length ≤ 9223372036854775807 := by omega
  have C1 := Lib.hid (fun W (hb : Below w.heap.size w W) => check_any _ _ s W (h1.up hb) (h2.up hb))
  by_cases q1 : chk s = 0
  · obtain ⟨z1, z2, _⟩ := chk_ok q1
    have H1 := Lib.hid q1
    have hT := Lib.hid (show cycS s = ((s.ws.findSome? (chaseW (nxt s.hs s.ws) s.ws.length)).getD [], 0) by rw [cycS, if_neg (by rw [H1.out]; simp)])
    have HS1 := Lib.hid h1
    have HS2 := Lib.hid h2
    clear q1 h1 h2
    have hmm := @run_makeMap Try.prog
    go_enter Try.func10, Try.ntmps10
    go_wp2_with fail
    go_step3
    go_wp2_with (go_at_call 11; refine (C1.out _ (ba _ _)).mono ?_; rw [H1.out]; rintro e w1 ⟨rfl, hb1⟩; have k0 := box_cell hb1 0 _ rfl; have k1 := box_cell hb1 1 _ rfl; have hz1 := box_lt hb1; have HB1 := Lib.hid ((ba w _).trans (hb1.mono (by simp))))
    clear hb1
    go_loopw [21] (fun i wr => ∃ k : Nat, k ≤ s.ws.length ∧ i = .int .i64 k ∧ Hid (Below w1.heap.size w1 wr) ∧ Hid (MapI Try.prog 3 3 wr w1.heap.size k (nxt s.hs (s.ws.take k)))) (fun i _ => s.ws.length - (intOf i).toNat)
    case atStart => exact ⟨0, by omega, rfl, ba _ _, MapI.new _ _ _ _⟩
    case round =>
      obtain ⟨k, hk, rfl, hb, hmap⟩ := hrel
      have HBw := Lib.hid (HB1.out.trans (hb.out.mono HB1.out.size))
      by_cases hlt : k < s.ws.length
      · obtain ⟨b', off', rfl, hbl', d0, d1, bd0, _⟩ := (HS2.out.up HBw.out).atW hlt
        obtain ⟨_, g0, g1⟩ := lock_in H1.out hlt
        obtain ⟨l, hle⟩ := Int.eq_ofNat_of_zero_le g0
        have hll : l < s.hs.length := by omega
        obtain ⟨b, off, rfl, hbl, e0, bd1⟩ := (HS1.out.up HBw.out).atI hll
        rw [hle] at d1
        have l0 := cell_later hb.out k0
        have l1 := cell_later hb.out k1
        have hzr : w.heap.size < wr.heap.size := Nat.lt_of_lt_of_le hz1 hb.out.size
        have hps := Lib.hid (show nxt s.hs (s.ws.take (k + 1)) = upd (nxt s.hs (s.ws.take k)) s.ws[k].task s.hs[l] by
          rw [List.take_succ_eq_append_getElem hlt, nxt, List.foldl_append]
          simp only [List.foldl_cons, List.foldl_nil, hle, Int.toNat_natCast, List.getD_eq_getElem?_getD, List.getElem?_eq_getElem hll, Option.getD_some]
          rfl)
        clear hle g0 g1
        go_wp2_with fail
        refine wp_region_still_tail 9 (by kernel_rfl) (by kernel_rfl) ?_
        simp only [List.take_succ_cons, List.take_zero, List.drop_succ_cons, List.drop_zero, World.drew_eq]
        repeat still_step
        refine wpStill_nil ?_
        refine wpList_update_mapI _ rfl (.tmp 25) (.tmp 27) (.tmp 33) 54 rfl 3 3 keyI Try.underlying3 Try.underlying54 Try.underlying3 w1.heap.size k _ rfl ((hmap.out.up (ba _ _)).kept (row := none) ⟨rfl, rfl, rfl, Nat.le_refl _, fun _ _ _ => rfl⟩ (by simp)) (by omega) _ _ rfl rfl bd0 bd1 ?_
        intro w2 hm2 hg2
        go_wp2_with fail
        go_roundw
        case rel =>
          refine ⟨k + 1, by omega, by go_num, ?_, by show MapI _ _ _ _ _ _ _; rw [hps.out]; exact hm2⟩
          exact ((hb.out.trans ((ba wr _).mono hb.out.size)).trans (Below.refl _ _).drew).grown hg2 (by simp; exact Nat.le_succ_of_le hb.out.size) fun j hj => by injection hj with hj; omega
        case measure => simp [intOf]; omega
      · have hke := Lib.hid (show k = s.ws.length by omega)
        have l0 := cell_later hb.out k0
        have l1 := cell_later hb.out k1
        have hzr : w.heap.size < wr.heap.size := Nat.lt_of_lt_of_le hz1 hb.out.size
        have hfull := hmap.out
        rw [hke.out, List.take_length] at hfull
        have HM := Lib.hid hfull
        clear hfull hmap
        go_wp2_with fail
        go_step3
        go_wp2_with fail
        go_loopg [38] s.ws.length (fun g i wq => ∃ j : Nat, j + g = s.ws.length ∧ i = .int .i64 j ∧ Hid (Below w1.heap.size w1 wq) ∧ Hid (MapI Try.prog 3 3 wq w1.heap.size s.ws.length (nxt s.hs s.ws)) ∧ Hid (∀ i, (hi : i < j) → (hi' : i < s.ws.length) → chaseW (nxt s.hs s.ws) s.ws.length s.ws[i] = none))
        case atStart => exact ⟨0, by omega, rfl, hb.out, HM.out, fun i hi => by omega⟩
        case round =>
          clear l0 l1 hzr hb HM
          obtain ⟨j, hjg, rfl, hb, HM, hall⟩ := hrel
          have HBw := Lib.hid (HB1.out.trans (hb.out.mono HB1.out.size))
          have l0 := cell_later hb.out k0
          have l1 := cell_later hb.out k1
          have hzr : w.heap.size < wr.heap.size := Nat.lt_of_lt_of_le hz1 hb.out.size
          by_cases hlt : j < s.ws.length
          · obtain ⟨b', off', rfl, hbl', d0, d1, bd0, bd1⟩ := (HS2.out.up HBw.out).atW hlt
            have hx := Lib.hid (show ∀ r, chase (nxt s.hs s.ws) s.ws.length s.ws[j].task (s.ws.length + 2) (nxt s.hs s.ws s.ws[j].task) [s.ws[j].task] = r → chaseW (nxt s.hs s.ws) s.ws.length s.ws[j] = r from fun r h => h)
            have hbf := Lib.hid (show ∀ t, Bd (nxt s.hs s.ws t) from nxt_bd (sl_bd HS1.out) s.ws _ (fun _ => by simp [Bd]))
            go_wp2_with (at_lookup; refine wpList_lookup_mapI _ rfl (.tmp 45) (.tmp 47) 54 rfl 3 3 keyI Try.underlying3 Try.underlying54 Try.underlying3 (zeroI _) w1.heap.size s.ws.length _ rfl ((HM.out.up (ba _ _)).up (ba _ _)) _ rfl bd0 ?_)
            obtain ⟨wo, rfl⟩ : ∃ wo : World, wo = wr := ⟨_, rfl⟩
            obtain ⟨gi, rfl⟩ : ∃ gi : Nat, gi = gk := ⟨_, rfl⟩
            go_loopg [10, 11] (s.ws.length + 1) (fun g' v t wq => ∃ (out : List Int) (tt : Int), t = .int .i64 tt ∧ out.length + g' = s.ws.length + 2 ∧ 1 ≤ out.length ∧ Hid (Bd tt) ∧ Hid (Own intR 3 (wo.heap.size + 1) wq v out) ∧ Hid (Below (wo.heap.size + 1) (wo.alloc (.cells #[.int .i64 s.ws[j].task, .int .i64 s.ws[j].lock] 33)) wq) ∧
              Hid (chase (nxt s.hs s.ws) s.ws.length s.ws[j].task (g' + 1) tt out = chaseW (nxt s.hs s.ws) s.ws.length s.ws[j]))
            case atStart =>
              refine ⟨[s.ws[j].task], nxt s.hs s.ws s.ws[j].task, rfl, by simp; omega, by simp, hbf.out _, ?_, (ba _ _).mono (by simp), rfl⟩
              exact Own.lit (cells := [.int .i64 s.ws[j].task]) (by simp) (by simp) (many_one_int _ bd0) rfl (by omega)
            case round =>
              obtain ⟨out, tt, rfl, hlen, h1o, hbt, hown, hbq, hch⟩ := hrel
              have hch' := hch.out
              rw [chase] at hch'
              have HMq := Lib.hid ((HM.out.up (ba _ (.cells #[.int .i64 s.ws[j].task, .int .i64 s.ws[j].lock] 33))).up (hbq.out.mono (by simp)))
              have hbw := Lib.hid ((hb.out.trans ((ba wo (.cells #[.int .i64 s.ws[j].task, .int .i64 s.ws[j].lock] 33)).mono hb.out.size)).trans (hbq.out.mono (Nat.le_succ_of_le hb.out.size)))
              have e0 := box_cell (hbq.out.mono (by simp)) 0 _ rfl
              have l1q := cell_later hbw.out k1
              have hzq : w1.heap.size ≤ wr.heap.size := hbw.out.size
              obtain ⟨Ao, co, hvo, hoc, hocm, hown'⟩ := hown.out.form
              subst hvo
              by_cases c1 : tt = s.ws[j].task
              · rw [if_pos c1] at hch'
                have c1' : (tt != s.ws[j].task) = false := by simpa using c1
                have HC := Lib.hid hch'
                have HO := Lib.hid hown'
                clear c1 hch' hch hown'
                go_wp2_with fail
                rw [Exit.noGoto_ret]
                go_ret2
                rw [hT.out]
                refine ⟨_, rfl, ?_, HB1.out.trans (hbw.out.mono HB1.out.size)⟩
                rw [findSome_hit hlt HC.out.symm hall.out]
                exact HO.out.sl
              · rw [if_neg c1] at hch'
                have c1' : (tt != s.ws[j].task) = true := by simpa using c1
                clear c1 hch
                by_cases c2 : tt = 0
                · have c2' : (tt == 0) = true := by simpa using c2
                  rw [if_pos (.inl c2)] at hch'
                  have HC := Lib.hid hch'
                  clear c2 hch' hown'
                  go_wp2_with fail
                  go_roundg (gi - 1)
                  case rel =>
                    refine ⟨j + 1, by omega, by go_num, hbw.out, HMq.out, fun i hi hi' => ?_⟩
                    by_cases e : i = j
                    · subst e; exact HC.out.symm
                    · exact hall.out i (by omega) hi'
                  case measure => omega
                · have c2' : (tt == 0) = false := by simpa using c2
                  by_cases c3 : s.ws.length < out.length
                  · rw [if_pos (.inr c3)] at hch'
                    have HC := Lib.hid hch'
                    clear c2 hch' hown'
                    go_wp2_with fail
                    go_roundg (gi - 1)
                    case rel =>
                      refine ⟨j + 1, by omega, by go_num, hbw.out, HMq.out, fun i hi hi' => ?_⟩
                      by_cases e : i = j
                      · subst e; exact HC.out.symm
                      · exact hall.out i (by omega) hi'
                    case measure => omega
                  · rw [if_neg (by simp [c2, c3])] at hch'
                    have HC := Lib.hid hch'
                    clear c2 hch' hown'
                    go_wp2_with (first
                      | (at_builtin; refine wpList_append_sl _ rfl (.tmp 66) (.tmp 68) 22 rfl intR (wo.heap.size + 1) 3 _ 8 Try.underlying22 infoI rfl (by decide) _ out rfl (hown.out.up (ba _ _)) _ [tt] rfl (sl_one _ _ _ _ rfl hbt.out) (by rw [List.length_singleton]; omega) (by decide) (by simp; have := hbq.out.size; simp at this; omega) (fun w' _ cs y h => intR_flat _ _ _ _ h) ?_; intro v1 w2 hown1 hg1 hat1)
                      | (at_lookup; refine wpList_lookup_mapI _ rfl (.tmp 53) (.tmp 54) 54 rfl 3 3 keyI Try.underlying3 Try.underlying54 Try.underlying3 (zeroI _) w1.heap.size s.ws.length _ rfl ((HMq.out.up (ba _ _)).kept hg1 (fun e => by have h1 := (hown.out.lt _ e).1; have h2 := hb.out.size; omega)) _ rfl hbt.out ?_))
                    go_roundg (gk - 1)
                    case rel =>
                      refine ⟨out ++ [tt], nxt s.hs s.ws tt, rfl, by rw [List.length_append, List.length_singleton]; omega, by rw [List.length_append]; omega, hbf.out _, hown1, ?_, ?_⟩
                      · exact (hbq.out.trans ((ba wr _).mono (by have := hbq.out.size; simp at this; omega))).grown hg1 (by simp; have := hbq.out.size; simp at this; omega) fun i hi => (hown.out.lt i hi).1
                      · have h1 := HC.out
                        rw [show gk = gk - 1 + 1 from by omega] at h1
                        exact h1
                    case measure => omega
          · have hje := Lib.hid (show j = s.ws.length by omega)
            go_wp2_with fail
            rw [Exit.noGoto_ret]
            go_ret2
            rw [hT.out]
            refine ⟨_, rfl, ?_, HBw.out⟩
            have hn : s.ws.findSome? (chaseW (nxt s.hs s.ws) s.ws.length) = none := by
              rw [List.findSome?_eq_none_iff]
              intro x hx
              obtain ⟨i, hi, rfl⟩ := List.getElem_of_mem hx
              exact hall.out i (by have := hje.out; omega) hi
            rw [hn]
            exact Sl.none _ _
  · have hn : (chk s != 0) = true := by simpa using q1
    have hT := Lib.hid (show cycS s = ([], chk s) by rw [cycS, if_pos q1])
    clear q1 h1 h2
    go_enter Try.func10, Try.ntmps10
    go_wp2_with fail
    go_step3
    go_wp2_with (go_at_call 11; refine (C1.out _ (ba _ _)).mono ?_; rintro e w1 ⟨rfl, hb1⟩)
    rw [Exit.noGoto_ret]
    go_ret2
    rw [hT.out]
    exact ⟨_, rfl, Sl.none _ _, (ba _ _).trans (hb1.mono (by simp))⟩
end Go.Proofs.Ytgmjfmajdnoogaa
