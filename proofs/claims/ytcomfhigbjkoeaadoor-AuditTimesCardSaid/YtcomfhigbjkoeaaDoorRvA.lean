/-
  Walks of groundlingref05.both, Add; groundlingref01.lower, digit, Name; groundlingref15.within. Conditions: as each theorem says.
-/
import Derived.Test.YtcomfhigbjkoeaaDoorTmA
namespace Go.Proofs.YtcomfhigbjkoeaaDoor
open Go.RowKit

theorem both_any (a b : Int) (w : World) : Calls Tryd.prog 27 #[.int .i64 a, .int .i64 b] w fun e w' => e = .returned (.int .i64 (if a < 0 ∨ b < 0 then 7 else 0)) ∧ Below w.heap.size w w' := by
  by_cases h1 : a < 0
  · have hT := Lib.hid (show (if a < 0 ∨ b < 0 then (7 : Int) else 0) = 7 by rw [if_pos (.inl h1)])
    have t1 : decide (a < 0) = true := decide_eq_true h1
    go_enter Tryd.func27, Tryd.ntmps27
    go_wp2
    go_ret
    exact ⟨by first | rfl | (rw [hT.out]; rfl), Below.refl _ _⟩
  have t1 : decide (a < 0) = false := decide_eq_false h1
  by_cases h2 : b < 0
  · have hT := Lib.hid (show (if a < 0 ∨ b < 0 then (7 : Int) else 0) = 7 by rw [if_pos (.inr h2)])
    have t2 : decide (b < 0) = true := decide_eq_true h2
    go_enter Tryd.func27, Tryd.ntmps27
    go_wp2
    go_ret
    exact ⟨by first | rfl | (rw [hT.out]; rfl), Below.refl _ _⟩
  · have hT := Lib.hid (show (if a < 0 ∨ b < 0 then (7 : Int) else 0) = 0 by rw [if_neg (by omega)])
    have t2 : decide (b < 0) = false := decide_eq_false h2
    go_enter Tryd.func27, Tryd.ntmps27
    go_wp2
    go_ret
    exact ⟨by first | rfl | (rw [hT.out]; rfl), Below.refl _ _⟩

theorem rAdd_any (t d : Int) (w : World) (ht : Bd t) (hd : Bd d) :
    Calls Tryd.prog 11 #[.int .i64 t, .int .i64 d] w fun e w' => e = .returned (.tuple #[.int .i64 (addT t d).1, .int .i64 (addT t d).2]) ∧ Below w.heap.size w w' := by
  have C := Lib.hid (both_any t d w)
  unfold Bd at ht hd
  by_cases h0 : t < 0 ∨ d < 0
  · have hT := Lib.hid (show addT t d = (0, 7) by rw [addT, if_pos h0])
    rw [if_pos h0] at C
    clear h0
    go_enter Tryd.func11, Tryd.ntmps11
    go_wp2_with (go_at_call 27; refine C.out.mono ?_; rintro e w' ⟨rfl, hb⟩)
    go_ret2
    exact ⟨by rw [hT.out]; rfl, hb⟩
  · rw [if_neg h0] at C
    have ht0 : 0 ≤ t := by omega
    have hd0 : 0 ≤ d := by omega
    by_cases h1 : 9223372036854775807 < t + d
    · have hT := Lib.hid (show addT t d = (9223372036854775807, 0) by rw [addT, if_neg h0, if_pos h1])
      have t1 : 9223372036854775807 - d < t := by omega
      clear h0
      go_enter Tryd.func11, Tryd.ntmps11
      go_wp2_with (go_at_call 27; refine C.out.mono ?_; rintro e w' ⟨rfl, hb⟩)
      go_ret2
      exact ⟨by rw [hT.out]; rfl, hb⟩
    · have hT := Lib.hid (show addT t d = (t + d, 0) by rw [addT, if_neg h0, if_neg h1])
      have t1 : t ≤ 9223372036854775807 - d := by omega
      clear h0
      go_enter Tryd.func11, Tryd.ntmps11
      go_wp2_with (go_at_call 27; refine C.out.mono ?_; rintro e w' ⟨rfl, hb⟩)
      go_ret2
      exact ⟨by rw [hT.out]; rfl, hb⟩

def digB (c : UInt8) : Bool := decide (48 ≤ c.toNat) && decide (c.toNat ≤ 57)

theorem lower_any (c : UInt8) (w : World) : Calls Tryd.prog 63 #[.int .u8 (c.toNat : Int)] w fun e w' => e = .returned (.bool (lowB c)) ∧ w' = w := by
  have hc := c.toNat_lt
  by_cases h1 : (c.toNat : Int) < 97
  · have hT := Lib.hid (show lowB c = false by simp only [lowB]; simp; omega)
    go_enter Tryd.func63, Tryd.ntmps63
    go_wp2
    go_ret
    exact ⟨ret_bool hT.out.symm, rfl⟩
  have g1 : (97 : Int) ≤ (c.toNat : Int) := by omega
  by_cases h2 : (122 : Int) < (c.toNat : Int)
  · have g2 : decide ((c.toNat : Int) ≤ 122) = false := decide_eq_false (by omega)
    have hT := Lib.hid (show lowB c = false by simp only [lowB]; simp; omega)
    go_enter Tryd.func63, Tryd.ntmps63
    go_wp2
    go_ret
    exact ⟨ret_bool hT.out.symm, rfl⟩
  · have hT := Lib.hid (show lowB c = true by simp only [lowB]; simp; omega)
    have g2 : (c.toNat : Int) ≤ 122 := by omega
    go_enter Tryd.func63, Tryd.ntmps63
    go_wp2
    go_ret
    exact ⟨ret_bool hT.out.symm, rfl⟩

theorem digit_any (c : UInt8) (w : World) : Calls Tryd.prog 64 #[.int .u8 (c.toNat : Int)] w fun e w' => e = .returned (.bool (digB c)) ∧ w' = w := by
  have hc := c.toNat_lt
  by_cases h1 : (c.toNat : Int) < 48
  · have hT := Lib.hid (show digB c = false by simp only [digB]; simp; omega)
    go_enter Tryd.func64, Tryd.ntmps64
    go_wp2
    go_ret
    exact ⟨ret_bool hT.out.symm, rfl⟩
  have g1 : (48 : Int) ≤ (c.toNat : Int) := by omega
  by_cases h2 : (57 : Int) < (c.toNat : Int)
  · have g2 : decide ((c.toNat : Int) ≤ 57) = false := decide_eq_false (by omega)
    have hT := Lib.hid (show digB c = false by simp only [digB]; simp; omega)
    go_enter Tryd.func64, Tryd.ntmps64
    go_wp2
    go_ret
    exact ⟨ret_bool hT.out.symm, rfl⟩
  · have hT := Lib.hid (show digB c = true by simp only [digB]; simp; omega)
    have g2 : (c.toNat : Int) ≤ 57 := by omega
    go_enter Tryd.func64, Tryd.ntmps64
    go_wp2
    go_ret
    exact ⟨ret_bool hT.out.symm, rfl⟩

theorem within_in {n lo hi : Int} (h : outB n lo hi = false) (w : World) : Calls Tryd.prog 34 #[.int .i64 n, .int .i64 lo, .int .i64 hi] w fun e w' => e = .returned (.bool true) ∧ w' = w := by
  simp [outB] at h
  have h1 : lo ≤ n := by omega
  have h2 : n ≤ hi := by omega
  clear h
  have t1 : decide (lo ≤ n) = true := decide_eq_true h1
  have t2 : decide (n ≤ hi) = true := decide_eq_true h2
  go_enter Tryd.func34, Tryd.ntmps34
  go_wp2
  go_ret
  exact ⟨rfl, rfl⟩

theorem within_out {n lo hi : Int} (h : outB n lo hi = true) (w : World) : Calls Tryd.prog 34 #[.int .i64 n, .int .i64 lo, .int .i64 hi] w fun e w' => e = .returned (.bool false) ∧ w' = w := by
  simp [outB] at h
  by_cases h1 : n < lo
  · have t1 : decide (lo ≤ n) = false := decide_eq_false (by omega)
    clear h
    go_enter Tryd.func34, Tryd.ntmps34
    go_wp2
    go_ret
    exact ⟨rfl, rfl⟩
  · have t1 : decide (lo ≤ n) = true := decide_eq_true (by omega)
    have t2 : decide (n ≤ hi) = false := decide_eq_false (by omega)
    clear h
    go_enter Tryd.func34, Tryd.ntmps34
    go_wp2
    go_ret
    exact ⟨rfl, rfl⟩

theorem all_snoc {α : Type} (p : α → Bool) (l : List α) (k : Nat) (hk : k < l.length) : (l.take (k + 1)).all p = ((l.take k).all p && p l[k]) := by
  rw [List.take_succ_eq_append_getElem hk, List.all_append]; simp

set_option maxHeartbeats 2000000 in
theorem rWord_any (s : ByteArray) (w : World) (hs : s.size ≤ 9223372036854775807) :
    Calls Tryd.prog 45 #[.string s] w fun e w' => e = .returned (.bool (nameB s)) ∧ w' = w := by
  have C1 := Lib.hid (fun (c : UInt8) W => lower_any c W)
  have C2 := Lib.hid (fun (c : UInt8) W => digit_any c W)
  by_cases h0 : s.size < 1
  · have hT := Lib.hid (show nameB s = false by simp [nameB]; omega)
    go_enter Tryd.func45, Tryd.ntmps45
    go_wp2_with fail
    go_ret
    exact ⟨ret_bool hT.out.symm, rfl⟩
  have h0' : 0 < s.size := by omega
  by_cases h1 : 16 < s.size
  · have hT := Lib.hid (show nameB s = false by simp [nameB]; omega)
    go_enter Tryd.func45, Tryd.ntmps45
    go_wp2_with fail
    go_ret
    exact ⟨ret_bool hT.out.symm, rfl⟩
  have hd : s.data.toList.getD 0 0 = s[0] := by
    rw [List.getD_eq_getElem?_getD, List.getElem?_eq_getElem (by simpa using h0')]
    rfl
  have hE := Lib.hid (show nameB s = (lowB s[0] && s.data.toList.all wordB) by
    simp only [nameB, hd]
    rw [show decide (1 ≤ s.size) = true by simp; omega, show decide (s.size ≤ 16) = true by simp; omega]
    simp)
  clear hd
  have D1 := Lib.hid (C1.out s[0] w)
  cases hl : lowB s[0] with
  | false =>
    have hT := Lib.hid (show nameB s = false by rw [hE.out, hl]; rfl)
    rw [hl] at D1
    clear hl
    go_enter Tryd.func45, Tryd.ntmps45
    go_wp2_with fail
    refine D1.out.mono ?_
    rintro e w' ⟨rfl, rfl⟩
    go_wp2_with fail
    go_ret
    exact ⟨ret_bool hT.out.symm, rfl⟩
  | true =>
  replace hE := Lib.hid (show nameB s = s.data.toList.all wordB by rw [hE.out, hl]; rfl)
  rw [hl] at D1
  clear hl
  have hsz : s.data.toList.length = s.size := Array.length_toList
  go_enter Tryd.func45, Tryd.ntmps45
  go_wp2_with fail
  refine D1.out.mono ?_
  rintro e w' ⟨rfl, rfl⟩
  go_wp2_with fail
  go_loopw [3] (fun i wr => wr = w' ∧ ∃ k : Nat, k ≤ s.size ∧ i = .int .i64 k ∧ Hid ((s.data.toList.take k).all wordB = true)) (fun i _ => s.size - (intOf i).toNat)
  case atStart => exact ⟨rfl, 0, by omega, rfl, Lib.hid rfl⟩
  case round =>
    obtain ⟨rfl, k, hk, rfl, ha⟩ := hrel
    by_cases hlt : k < s.size
    · have hsn := all_snoc wordB s.data.toList k (by omega)
      have hge : s.data.toList[k]'(by omega) = s[k] := rfl
      rw [hge] at hsn
      have E1 := Lib.hid (C1.out s[k] wr)
      have E2 := Lib.hid (C2.out s[k] wr)
      have hwd : wordB s[k] = (lowB s[k] || digB s[k] || decide (s[k].toNat = 45)) := rfl
      have hk0 : (0 : Int) ≤ (k : Int) := by omega
      have hk1 : (k : Int) < (s.size : Int) := by omega
      cases hl : lowB s[k] with
      | true =>
        have hN := Lib.hid (show (s.data.toList.take (k + 1)).all wordB = true by rw [hsn, ha.out, hwd, hl]; rfl)
        rw [hl] at E1
        clear hl hwd hsn hge
        go_wp2_with fail
        refine E1.out.mono ?_
        rintro e w' ⟨rfl, rfl⟩
        go_wp2_with fail
        go_roundw
        case rel => exact ⟨trivial, k + 1, by omega, by go_num, hN⟩
        case measure => simp [intOf]; omega
      | false =>
        rw [hl] at E1
        cases hg : digB s[k] with
        | true =>
          have hN := Lib.hid (show (s.data.toList.take (k + 1)).all wordB = true by rw [hsn, ha.out, hwd, hl, hg]; rfl)
          rw [hg] at E2
          clear hl hwd hsn hge hg
          go_wp2_with fail
          refine E1.out.mono ?_
          rintro e w' ⟨rfl, rfl⟩
          go_wp2_with fail
          refine E2.out.mono ?_
          rintro e w' ⟨rfl, rfl⟩
          go_wp2_with fail
          go_roundw
          case rel => exact ⟨trivial, k + 1, by omega, by go_num, hN⟩
          case measure => simp [intOf]; omega
        | false =>
          rw [hg] at E2
          by_cases hm : s[k].toNat = 45
          · have hN := Lib.hid (show (s.data.toList.take (k + 1)).all wordB = true by rw [hsn, ha.out, hwd, hl, hg]; simp [hm])
            have t1 : ((s[k].toNat : Int) != 45) = false := by simp [hm]
            clear hl hwd hsn hge hg hm
            go_wp2_with fail
            refine E1.out.mono ?_
            rintro e w' ⟨rfl, rfl⟩
            go_wp2_with fail
            refine E2.out.mono ?_
            rintro e w' ⟨rfl, rfl⟩
            go_wp2_with fail
            go_roundw
            case rel => exact ⟨trivial, k + 1, by omega, by go_num, hN⟩
            case measure => simp [intOf]; omega
          · have hT := Lib.hid (show nameB s = false by
              rw [hE.out]
              have h2 : wordB s[k] = false := by rw [hwd, hl, hg]; simp [hm]
              have h3 : ¬ s.data.toList.all wordB = true := fun h => by
                have := List.all_eq_true.1 h _ (List.getElem_mem (show k < s.data.toList.length by omega))
                rw [hge, h2] at this; cases this
              simpa using h3)
            have t1 : ((s[k].toNat : Int) != 45) = true := by simp; omega
            clear hl hwd hsn hge hg hm
            go_wp2_with fail
            refine E1.out.mono ?_
            rintro e w' ⟨rfl, rfl⟩
            go_wp2_with fail
            refine E2.out.mono ?_
            rintro e w' ⟨rfl, rfl⟩
            go_wp2_with fail
            go_ret
            exact ⟨ret_bool hT.out.symm, rfl⟩
    · have hT := Lib.hid (show nameB s = true by rw [hE.out, ← ha.out, List.take_of_length_le (by omega)])
      have hk1 : (s.size : Int) ≤ (k : Int) := by omega
      go_wp2_with fail
      go_ret
      exact ⟨ret_bool hT.out.symm, rfl⟩
end Go.Proofs.YtcomfhigbjkoeaaDoor
