/-
  Walks of groundlingref32.Name, groundlingref32.Count, groundlingref15.Ints. Conditions: as each theorem says.
-/
import Derived.Test.YtcomfhigbjkoeaaDoorSmA
namespace Go.Proofs.YtcomfhigbjkoeaaDoor
open Go.RowKit

set_option maxHeartbeats 2000000 in
theorem rName_any (rule : Int) (w : World) : Calls Tryd.prog 14 #[.int .i64 rule] w fun e w' => e = .returned (.tuple #[.string (nameA rule).1, .int .i64 (nameA rule).2]) ∧ Below w.heap.size w w' := by
  have hk : rule < 1 ∨ 13 < rule ∨ rule = 1 ∨ rule = 2 ∨ rule = 3 ∨ rule = 4 ∨ rule = 5 ∨ rule = 6 ∨ rule = 7 ∨ rule = 8 ∨ rule = 9 ∨ rule = 10 ∨ rule = 11 ∨ rule = 12 ∨ rule = 13 := by omega
  rcases hk with hk | hk | rfl | rfl | rfl | rfl | rfl | rfl | rfl | rfl | rfl | rfl | rfl | rfl | rfl
  · have hT := Lib.hid (show nameA rule = (⟨#[]⟩, 2) by rw [nameA, if_pos (.inl hk)])
    have t1 : decide (rule < 1) = true := decide_eq_true hk
    clear hk
    go_enter Tryd.func14, Tryd.ntmps14
    go_wp2_with fail
    go_ret2
    exact ⟨by rw [hT.out]; rfl, Below.refl _ _⟩
  · have hT := Lib.hid (show nameA rule = (⟨#[]⟩, 2) by rw [nameA, if_pos (.inr hk)])
    have t1 : decide (rule < 1) = false := decide_eq_false (by omega)
    have t2 : decide (13 < rule) = true := decide_eq_true (by omega)
    clear hk
    go_enter Tryd.func14, Tryd.ntmps14
    go_wp2_with fail
    go_ret2
    exact ⟨by rw [hT.out]; rfl, Below.refl _ _⟩
  · go_enter Tryd.func14, Tryd.ntmps14
    go_wp2_with fail
    go_ret2
    exact ⟨rfl, ba _ _⟩
  · go_enter Tryd.func14, Tryd.ntmps14
    go_wp2_with fail
    go_ret2
    exact ⟨rfl, ba _ _⟩
  · go_enter Tryd.func14, Tryd.ntmps14
    go_wp2_with fail
    go_ret2
    exact ⟨rfl, ba _ _⟩
  · go_enter Tryd.func14, Tryd.ntmps14
    go_wp2_with fail
    go_ret2
    exact ⟨rfl, ba _ _⟩
  · go_enter Tryd.func14, Tryd.ntmps14
    go_wp2_with fail
    go_ret2
    exact ⟨rfl, ba _ _⟩
  · go_enter Tryd.func14, Tryd.ntmps14
    go_wp2_with fail
    go_ret2
    exact ⟨rfl, ba _ _⟩
  · go_enter Tryd.func14, Tryd.ntmps14
    go_wp2_with fail
    go_ret2
    exact ⟨rfl, ba _ _⟩
  · go_enter Tryd.func14, Tryd.ntmps14
    go_wp2_with fail
    go_ret2
    exact ⟨rfl, ba _ _⟩
  · go_enter Tryd.func14, Tryd.ntmps14
    go_wp2_with fail
    go_ret2
    exact ⟨rfl, ba _ _⟩
  · go_enter Tryd.func14, Tryd.ntmps14
    go_wp2_with fail
    go_ret2
    exact ⟨rfl, ba _ _⟩
  · go_enter Tryd.func14, Tryd.ntmps14
    go_wp2_with fail
    go_ret2
    exact ⟨rfl, ba _ _⟩
  · go_enter Tryd.func14, Tryd.ntmps14
    go_wp2_with fail
    go_ret2
    exact ⟨rfl, ba _ _⟩
  · go_enter Tryd.func14, Tryd.ntmps14
    go_wp2_with fail
    go_ret2
    exact ⟨rfl, ba _ _⟩

set_option maxHeartbeats 2000000 in
theorem ints_any {w : World} {A B : Option Addr} {ca cb : Nat} {xs ys : List Int} (ha : Sl intR w (.slice A xs.length ca) xs) (hb : Sl intR w (.slice B ys.length cb) ys) :
    Calls Tryd.prog 17 #[.slice A xs.length ca, .slice B ys.length cb] w fun e w' => e = .returned (.bool (decide (xs = ys))) ∧ Below w.heap.size w w' := by
  have hca := ha.cap
  have hcb := hb.cap
  have HA := Lib.hid ha
  have HB := Lib.hid hb
  clear ha hb
  by_cases hl : xs.length = ys.length
  case neg =>
    have t0 : ((xs.length : Int) != (ys.length : Int)) = true := by simp; omega
    have hT := Lib.hid (show decide (xs = ys) = false from decide_eq_false fun h => hl (by rw [h]))
    generalize decide (xs = ys) = M at hT ⊢
    go_enter Tryd.func17, Tryd.ntmps17
    go_wp2_with fail
    go_ret
    exact ⟨ret_bool hT.out.symm, Below.refl _ _⟩
  have t0 : ((xs.length : Int) != (ys.length : Int)) = false := by simp; omega
  have HL := Lib.hid hl
  have hll : ys.length ≤ xs.length := by omega
  clear hl
  obtain ⟨M, hM⟩ : ∃ M, decide (xs = ys) = M := ⟨_, rfl⟩
  rw [hM]
  have HM := Lib.hid hM
  clear hM
  go_enter Tryd.func17, Tryd.ntmps17
  go_wp2_with fail
  go_loopw [5] (fun i wr => ∃ k : Nat, k ≤ xs.length ∧ i = .int .i64 k ∧ Hid (Below w.heap.size w wr) ∧ Hid (∀ j, (h1 : j < xs.length) → (h2 : j < ys.length) → j < k → xs[j] = ys[j])) (fun i _ => xs.length - (intOf i).toNat)
  case atStart => exact ⟨0, by omega, rfl, Lib.hid (Below.refl _ _), Lib.hid fun j _ _ h => by omega⟩
  case round =>
    obtain ⟨k, hk, rfl, HW, hall⟩ := hrel
    by_cases hlt : k < xs.length
    · have hlt2 : k < ys.length := by have := HL.out; omega
      obtain ⟨b1, o1, hA, _, d0, _⟩ := (HA.out.up HW.out).atI hlt
      obtain ⟨b2, o2, hB, _, e0, _⟩ := (HB.out.up HW.out).atI hlt2
      subst hA
      subst hB
      have hne := Lib.hid (show xs[k] ≠ ys[k] → M = false from fun h => by rw [← HM.out]; exact decide_eq_false fun e => h (by simp only [e]))
      have hnx := Lib.hid (show xs[k] = ys[k] → ∀ j, (h1 : j < xs.length) → (h2 : j < ys.length) → j < k + 1 → xs[j] = ys[j] from fun h j h1 h2 hj => by
        by_cases e : j = k
        · subst e; exact h
        · exact hall.out j h1 h2 (by omega))
      generalize xs[k] = x at d0 hne hnx
      generalize ys[k] = y at e0 hne hnx
      by_cases h1 : x = y
      · subst h1
        go_wp2_with fail
        go_quiet (fail)
        go_wp2_with fail
        go_roundw
        case rel => exact ⟨k + 1, by omega, by go_num, Lib.hid (bdN HW.out _), Lib.hid (hnx.out (by first | trivial | rfl))⟩
        case measure => simp [intOf]; omega
      · have t1 : (x == y) = false := by simpa using h1
        have t2 : (x != y) = true := by simpa using h1
        have hm := Lib.hid (hne.out h1)
        go_wp2_with fail
        go_quiet (fail)
        go_wp2_with fail
        go_ret
        exact ⟨ret_bool hm.out.symm, bdN HW.out _⟩
    · have hm := Lib.hid (show M = true by rw [← HM.out]; exact decide_eq_true (eq_of_at HL.out fun j h1 h2 => hall.out j h1 h2 (by omega)))
      go_wp2_with fail
      go_ret
      exact ⟨ret_bool hm.out.symm, HW.out⟩


set_option maxHeartbeats 4000000 in
theorem rCount_any {w : World} {L : Option Addr} {lc : Nat} {l : List (Int × Int)} (hl : Sl faR w (.slice L l.length lc) l) (hn : l.length ≤ 1000000) : Calls Tryd.prog 16 #[.slice L l.length lc] w (CountPost w l) := by
  have hmk : ∀ w, (Instr.makeSlice 56 (.int .i64 13) (.int .i64 13)).run Tryd.prog w = .ok (.slice (some ⟨w.heap.size, 0, none⟩) 13 13) (w.alloc (.cells (madeCells #[.int .i64 0] 13) 3)) := fun w => mk_ints 13 (by omega) w
  have hcap := hl.cap
  have HL := Lib.hid hl
  have hC : countA l = countLoop l (List.replicate 13 0) := rfl
  have HC0 := Lib.hid hC
  clear hl hC
  go_enter Tryd.func16, Tryd.ntmps16
  go_wp2_with fail
  refine at_world (fun W => Own intR 3 w.heap.size W (.slice (some ⟨w.heap.size, 0, none⟩) 13 13) (List.replicate 13 0) ∧ Below w.heap.size w W) ⟨own_zeros w 13 (by omega), ba _ _⟩ fun w0 ⟨ho0, hb0⟩ => ?_
  have HO0 := Lib.hid ho0
  have HB0 := Lib.hid hb0
  clear ho0 hb0 hmk
  go_loopw [5] (fun i wr => ∃ k : Nat, k ≤ l.length ∧ i = .int .i64 k ∧ ∃ acc : List Int, acc.length = 13 ∧ Hid (∀ j, (h : j < acc.length) → 0 ≤ acc[j] ∧ acc[j] ≤ k) ∧ Hid (Own intR 3 w.heap.size wr (.slice (some ⟨w.heap.size, 0, none⟩) 13 13) acc) ∧ Hid (Below w.heap.size w wr) ∧ Hid (countA l = countLoop (l.drop k) acc)) (fun i _ => l.length - (intOf i).toNat)
  case atStart => exact ⟨0, by omega, rfl, _, by simp, Lib.hid fun j h => by rw [List.getElem_replicate]; omega, HO0, HB0, HC0⟩
  case round =>
    obtain ⟨k, hk, rfl, acc, hal, hac, HO, HB, HC⟩ := hrel
    by_cases hlt : k < l.length
    · obtain ⟨bl, off, hA, hbl, d0, d1, hb1, hb2⟩ := (HL.out.up HB.out).atF hlt
      subst hA
      have hC := HC.out
      rw [List.drop_eq_getElem_cons hlt] at hC
      simp only [countLoop] at hC
      generalize l[k] = f at d0 d1 hb1 hb2 hC
      obtain ⟨st, ru⟩ := f
      simp only at d0 d1 hb1 hb2 hC
      have hN : nameA ru = if ru < 1 ∨ 13 < ru then (⟨#[]⟩, 2) else (nameBs.getD ru.toNat ⟨#[]⟩, 0) := rfl
      rw [hN] at hC
      clear hN
      have HC' := Lib.hid hC
      have HAL := Lib.hid hal
      clear hC hal HC
      by_cases he : 1 ≤ ru ∧ ru ≤ 13
      · obtain ⟨r1, r2⟩ := he
        have t1 : decide (ru < 1) = false := decide_eq_false (by omega)
        have t2 : decide (13 < ru) = false := decide_eq_false (by omega)
        obtain ⟨m, hm⟩ := Int.eq_ofNat_of_zero_le (show 0 ≤ ru - 1 by omega)
        have hm' : ru = (m : Int) + 1 := by omega
        subst hm'
        have hml : m < acc.length := by rw [HAL.out]; omega
        have hC := HC'.out
        rw [if_neg (show ¬ ((m : Int) + 1 < 1 ∨ 13 < (m : Int) + 1) by omega)] at hC
        simp only [ne_eq, not_true_eq_false, if_false, hm, Int.toNat_natCast, List.getD_eq_getElem?_getD, List.getElem?_eq_getElem hml, Option.getD_some] at hC
        have HC := Lib.hid hC
        obtain ⟨_, _, hcs, fd⟩ := HO.out.cell_ hml
        have HB1 := HO.out.block
        obtain ⟨b', off', hB', _, g0, hbd⟩ := HO.out.sl.atI hml
        obtain ⟨rfl, rfl⟩ : w.heap.size = b' ∧ 0 = off' := by injection hB' with hB'; injection hB' with h1 h2; exact ⟨h1, h2⟩
        rw [Nat.zero_add] at g0
        have f0 := fd m
        have z0 := HB1.2.1
        obtain ⟨q1, q2⟩ := hac.out m hml
        have hput := HO.out.putI hml (x := acc[m] + 1) ⟨by omega, by omega⟩
        have HP := Lib.hid hput
        have hM : IntKind.i64.wrap ((m : Int) + 1 - 1) = (m : Int) := by rw [show (m : Int) + 1 - 1 = m by omega]; exact IntWalk.i64_in _ (by omega)
        have hW : IntKind.i64.wrap (acc[m] + 1) = acc[m] + 1 := IntWalk.i64_in _ (by omega)
        clear hcs fd hm hC hput HB1 hB' hbd
        go_wp2_with fail
        go_roundw
        case rel =>
          refine ⟨k + 1, by omega, by go_num, acc.set m (acc[m] + 1), by rw [List.length_set]; exact HAL.out, Lib.hid fun j hj => ?_, Lib.hid HP.out.1, Lib.hid (HB.out.grown HP.out.2 HB.out.size (fun j hj => by injection hj with hj; omega)), HC⟩
          by_cases ej : m = j
          · subst ej
            rw [List.getElem_set_self]
            omega
          · rw [List.getElem_set_ne ej]
            have := hac.out j (by simpa using hj)
            omega
        case measure => simp [intOf]; omega
      · have hC := HC'.out
        rw [if_pos (show ru < 1 ∨ 13 < ru by omega), if_pos (by simp)] at hC
        have HC := Lib.hid hC
        clear hC
        by_cases h1 : ru < 1
        · have t1 : decide (ru < 1) = true := decide_eq_true h1
          go_wp2_with fail
          go_ret2
          exact ⟨none, 0, by rw [HC.out]; rfl, by rw [HC.out]; exact Sl.none _ _, HB.out⟩
        · have t1 : decide (ru < 1) = false := decide_eq_false h1
          have t2 : decide (13 < ru) = true := decide_eq_true (by omega)
          go_wp2_with fail
          go_ret2
          exact ⟨none, 0, by rw [HC.out]; rfl, by rw [HC.out]; exact Sl.none _ _, HB.out⟩
    · obtain rfl : k = l.length := by omega
      have hC := HC.out
      rw [List.drop_length] at hC
      simp only [countLoop] at hC
      have HC' := Lib.hid hC
      clear hC
      go_wp2_with fail
      go_ret2
      exact ⟨_, 13, by rw [HC'.out, hal]; rfl, by rw [HC'.out, hal]; exact HO.out.sl, HB.out⟩
end Go.Proofs.YtcomfhigbjkoeaaDoor
