/-
  Walks of groundlingref15.section, Places, Check, Seats. Conditions: as each theorem says.
-/
import Derived.Test.YtcomfhigbjkoeaaDoorRvA
import Derived.Test.YtcomfhigbjkoeaaDoorLibW
namespace Go.Proofs.YtcomfhigbjkoeaaDoor
open Go.RowKit

theorem Sl.capB {α : Type} {R : Rep α} {w : World} {A : Option Addr} {n c : Nat} {xs : List α} (h : Sl R w (.slice A n c) xs) : n = xs.length ∧ n ≤ c ∧ c ≤ 9223372036854775807 := by
  obtain ⟨A', c', he, h1, h2, _⟩ := h
  injection he with e1 e2 e3
  omega

theorem Cells.newQ (w : World) (cs : List Value) (t : TypeId) (g : Nat) (hg : g = w.heap.size) : Cells (w.alloc (.cells cs.toArray t)) g cs := hg ▸ Cells.new w cs t

set_option maxHeartbeats 4000000 in
theorem rsection_any {w : World} {V : Option Addr} {vc : Nat} {sh ttl ses : Int} {secs : List Sec} (hv : Sl secR w (.slice V secs.length vc) secs) {i : Nat} (hi : i < secs.length) :
    Calls Tryd.prog 35 #[.agg #[.int .i64 sh, .int .i64 ttl, .int .i64 ses, .slice V secs.length vc], .int .i64 (i : Int)] w fun e w' => e = .returned (.int .i64 (secE secs[i] (secs.take i))) ∧ Below w.heap.size w w' := by
  have HV := Lib.hid hv
  obtain ⟨b, off, A', c', rfl, hbl, e0, e1, e2, hin, _, hnm⟩ := hv.atS hi
  have hcv := HV.out.capB
  have hi0 : (0 : Int) ≤ (i : Int) := by omega
  have hi1 : (i : Int) < (secs.length : Int) := by omega
  have HIN := Lib.hid hin
  have hcap := hin.capB
  clear hv hin
  have hE := Lib.hid (show secE secs[i] (secs.take i) = if nameB secs[i].name = false then 6 else if ((secs.take i).any fun y => y.name.toList == secs[i].name.toList) then 8 else if secs[i].rows.length = 0 then 6 else if 16 < secs[i].rows.length then 3
    else if secs[i].rows.any (fun n => outB n 1 64) then 7 else if outB secs[i].queue 0 64 then 7 else 0 from rfl)
  generalize secE secs[i] (secs.take i) = E at hE ⊢
  generalize secs[i] = s at e0 e1 e2 HIN hE hnm hcap
  obtain ⟨nm, rows, queue⟩ := s
  dsimp only at e0 e1 e2 HIN hE hnm hcap
  have CB := Lib.hid (fun W => rWord_any nm W hnm)
  go_enter Tryd.func35, Tryd.ntmps35
  go_wp2_with fail
  clear e0 e1 e2
  obtain ⟨q, hq⟩ : ∃ q, w.heap.size = q := ⟨_, rfl⟩
  have hq1 : (w.alloc (.cells #[.int .i64 sh, .int .i64 ttl, .int .i64 ses, .slice (some ⟨b, off, none⟩) secs.length vc] 24)).heap.size = q + 1 := by simp [hq]
  rw [hq]
  refine (CB.out _).mono ?_
  rintro e w' ⟨rfl, rfl⟩
  dsimp only
  refine at_world (fun W => Below w.heap.size w W ∧ Cells W q [.int .i64 sh, .int .i64 ttl, .int .i64 ses, .slice (some ⟨b, off, none⟩) secs.length vc] ∧ Cells W (q + 1) [.string nm, .slice A' rows.length c', .int .i64 queue]) ⟨bal (ba _ _), (Cells.newQ _ _ _ _ hq.symm).alloc _, Cells.newQ _ _ 72 _ hq1.symm⟩ fun w' ⟨hb, k0, k1⟩ => ?_
  have HB := Lib.hid hb
  have K0 := Lib.hid k0
  have K1 := Lib.hid k1
  clear hq1 hb k0 k1 hbl
  cases hn : nameB nm with
  | false =>
    obtain rfl : E = 6 := by rw [hE.out, hn]; rfl
    go_wp2_with fail
    go_ret
    exact ⟨rfl, HB.out⟩
  | true =>
  replace hE := Lib.hid (show E = if ((secs.take i).any fun y => y.name.toList == nm.toList) then 8 else if rows.length = 0 then 6 else if 16 < rows.length then 3 else if rows.any (fun n => outB n 1 64) then 7 else if outB queue 0 64 then 7 else 0 by rw [hE.out, hn]; rfl)
  clear hn CB
  go_wp2_with fail
  go_loopw [6] (fun v wr => ∃ k : Nat, k ≤ i ∧ v = .int .i64 k ∧ Hid (Below w'.heap.size w' wr) ∧ Hid (((secs.take k).any fun y => y.name.toList == nm.toList) = false)) (fun v _ => i - (intOf v).toNat)
  case atStart => exact ⟨0, by omega, rfl, Lib.hid (Below.refl _ _), Lib.hid rfl⟩
  case round =>
    obtain ⟨k, hk, rfl, D, hno⟩ := hrel
    have k0 := K0.out.later D.out
    have k1 := K1.out.later D.out
    have c3 := k0.c 3 _ rfl
    have d0 := k1.c 0 _ rfl
    have d1 := k1.c 1 _ rfl
    have y0 := k0.lt
    have y1 := k1.lt
    clear k0 k1
    by_cases hlt : k < i
    · obtain ⟨b2, off2, A2, c2, he2, hbl2, e0, e1, e2, _, _, _⟩ := (HV.out.up (HB.out.trans (D.out.mono HB.out.size))).atS (show k < secs.length by omega)
      injection he2 with he2
      injection he2 with he2 he3
      subst he2 he3
      have hk0 : (0 : Int) ≤ (k : Int) := by omega
      have hk1 : (k : Int) < (i : Int) := by omega
      have hk2 : (k : Int) < (secs.length : Int) := by omega
      have hsn := Lib.hid (show ((secs.take (k + 1)).any fun y => y.name.toList == nm.toList) = (((secs.take k).any fun y => y.name.toList == nm.toList) || (secs[k].name.toList == nm.toList)) by
        rw [List.take_succ_eq_append_getElem (by omega), List.any_append]; simp)
      have hmem := Lib.hid (show secs[k] ∈ secs.take i from List.mem_iff_getElem?.2 ⟨k, by rw [List.getElem?_take, if_pos hlt, List.getElem?_eq_getElem (by omega)]⟩)
      cases ht : (secs[k].name.toList == nm.toList) with
      | true =>
        obtain rfl : E = 8 := by rw [hE.out, if_pos (List.any_eq_true.2 ⟨_, hmem.out, ht⟩)]
        go_wp2_with fail
        go_quiet (fail)
        go_wp2_with fail
        go_ret
        exact ⟨rfl, (HB.out.trans (D.out.mono HB.out.size)).trans (bdN (Below.refl _ _) _)⟩
      | false =>
        have hnx := Lib.hid (show ((secs.take (k + 1)).any fun y => y.name.toList == nm.toList) = false by rw [hsn.out, hno.out, ht]; rfl)
        go_wp2_with fail
        go_quiet (fail)
        go_wp2_with fail
        go_roundw
        case rel => exact ⟨k + 1, by omega, by go_num, Lib.hid (D.out.trans (bdN (Below.refl _ _) _)), hnx⟩
        case measure => simp [intOf]; omega
    obtain rfl : k = i := by omega
    replace hE := Lib.hid (show E = if rows.length = 0 then 6 else if 16 < rows.length then 3 else if rows.any (fun n => outB n 1 64) then 7 else if outB queue 0 64 then 7 else 0 by rw [hE.out, hno.out]; rfl)
    clear hno hlt
    have D' := Lib.hid (HB.out.trans (D.out.mono HB.out.size))
    by_cases h0 : rows.length = 0
    · have t0 : ((rows.length : Int) == 0) = true := by simp [h0]
      obtain rfl : E = 6 := by rw [hE.out, if_pos h0]
      clear h0
      go_wp2_with fail
      go_ret
      exact ⟨rfl, D'.out⟩
    have t0 : ((rows.length : Int) == 0) = false := by simpa using h0
    by_cases h1 : 16 < rows.length
    · have t1 : decide ((16 : Int) < (rows.length : Int)) = true := by simp; omega
      obtain rfl : E = 3 := by rw [hE.out, if_neg h0, if_pos h1]
      clear h0 h1
      go_wp2_with fail
      go_ret
      exact ⟨rfl, D'.out⟩
    have t1 : decide ((16 : Int) < (rows.length : Int)) = false := by simp; omega
    replace hE := Lib.hid (show E = if rows.any (fun n => outB n 1 64) then 7 else if outB queue 0 64 then 7 else 0 by rw [hE.out, if_neg h0, if_neg h1])
    have hlen : rows.length ≤ 16 := by omega
    clear h0 h1
    go_wp2_with fail
    clear c3 d0 d1 y0 y1 t0 t1
    have K1' := Lib.hid (K1.out.later D.out)
    go_loopw [7] (fun v wi => wi = wr ∧ ∃ j : Nat, j ≤ rows.length ∧ v = .int .i64 j ∧ Hid ((rows.take j).any (fun n => outB n 1 64) = false)) (fun v _ => rows.length - (intOf v).toNat)
    case atStart => exact ⟨rfl, 0, by omega, rfl, Lib.hid rfl⟩
    case round =>
      obtain ⟨rfl, j, hj, rfl, hno⟩ := hrel
      have d1 := K1'.out.c 1 _ rfl
      have d2 := K1'.out.c 2 _ rfl
      have y1 := K1'.out.lt
      by_cases hlt : j < rows.length
      · obtain ⟨b2, o2, rfl, hb2, e2, _⟩ := (HIN.out.up D'.out).atI hlt
        have hj0 : (0 : Int) ≤ (j : Int) := by omega
        have hj1 : (j : Int) < (rows.length : Int) := by omega
        have hsn := Lib.hid (show (rows.take (j + 1)).any (fun n => outB n 1 64) = ((rows.take j).any (fun n => outB n 1 64) || outB rows[j] 1 64) by
          rw [List.take_succ_eq_append_getElem (by omega), List.any_append]; simp)
        cases ht : outB rows[j] 1 64 with
        | true =>
          obtain rfl : E = 7 := by rw [hE.out, if_pos (List.any_eq_true.2 ⟨_, List.getElem_mem hlt, ht⟩)]
          have CW := Lib.hid (fun W => within_out ht W)
          go_wp2_with fail
          refine (CW.out _).mono ?_
          rintro e w3 ⟨rfl, rfl⟩
          go_wp2_with fail
          go_ret
          exact ⟨rfl, D'.out⟩
        | false =>
          have hnx := Lib.hid (show (rows.take (j + 1)).any (fun n => outB n 1 64) = false by rw [hsn.out, hno.out, ht]; rfl)
          have CW := Lib.hid (fun W => within_in ht W)
          go_wp2_with fail
          refine (CW.out _).mono ?_
          rintro e w3 ⟨rfl, rfl⟩
          go_wp2_with fail
          go_roundw
          case rel => exact ⟨trivial, j + 1, by omega, by go_num, hnx⟩
          case measure => simp [intOf]; omega
      obtain rfl : j = rows.length := by omega
      have hno' := hno.out
      rw [List.take_length] at hno'
      cases ht : outB queue 0 64 with
      | true =>
        obtain rfl : E = 7 := by rw [hE.out, hno', ht]; rfl
        have CW := Lib.hid (fun W => within_out ht W)
        clear hno hno'
        go_wp2_with fail
        refine (CW.out _).mono ?_
        rintro e w3 ⟨rfl, rfl⟩
        go_wp2_with fail
        go_ret
        exact ⟨rfl, D'.out⟩
      | false =>
        obtain rfl : E = 0 := by rw [hE.out, hno', ht]; rfl
        have CW := Lib.hid (fun W => within_in ht W)
        clear hno hno'
        go_wp2_with fail
        refine (CW.out _).mono ?_
        rintro e w3 ⟨rfl, rfl⟩
        go_wp2_with fail
        go_ret
        exact ⟨rfl, D'.out⟩
end Go.Proofs.YtcomfhigbjkoeaaDoor
