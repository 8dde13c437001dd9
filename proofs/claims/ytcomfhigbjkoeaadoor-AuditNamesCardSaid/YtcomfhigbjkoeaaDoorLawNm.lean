/-
  Walk of the statement's function AuditNames. Conditions: as the theorem says.
-/
import Derived.Test.YtcomfhigbjkoeaaDoorNmC
import Derived.Test.YtcomfhigbjkoeaaDoorAwA
namespace Go.Proofs.YtcomfhigbjkoeaaDoor
open Go.RowKit

theorem names_apart {a b : Int} (ha : (nameA a).2 = 0) (hb : (nameA b).2 = 0) (hne : a ≠ b) : ((nameA a).1.toList == (nameA b).1.toList) = false := by
  have h1 := nameA_ok ha
  have h2 := nameA_ok hb
  obtain ⟨j, rfl⟩ := Int.eq_ofNat_of_zero_le (show 0 ≤ a by omega)
  obtain ⟨k, rfl⟩ := Int.eq_ofNat_of_zero_le (show 0 ≤ b by omega)
  have hall : ∀ j : Fin 14, ∀ k : Fin 14, 1 ≤ j.val → 1 ≤ k.val → j ≠ k → ((nameA j.val).1.toList == (nameA k.val).1.toList) = false := by decide +kernel
  exact hall ⟨j, by omega⟩ ⟨k, by omega⟩ (by simp; omega) (by simp; omega) (fun e => hne (by injection e with e; omega))

set_option maxRecDepth 20000 in
set_option maxHeartbeats 8000000 in
theorem lawNames_any {w : World} {L : Option Addr} {lc : Nat} {l : List (Int × Int)} (hl : Sl faR w (.slice L l.length lc) l) (rule other : Int) :
    Calls Tryd.prog 5 #[.slice L l.length lc, .int .i64 rule, .int .i64 other] w fun e w' => e = .returned (.bool true) ∧ Below w.heap.size w w' := by
  have hcap := hl.cap
  by_cases hlen : 200 < l.length
  · have t0 : decide ((200 : Int) < (l.length : Int)) = true := decide_eq_true (by omega)
    clear hl
    go_enter Tryd.func5, Tryd.ntmps5
    go_wp2_with fail
    refine (awake_any _).mono ?_
    rintro e w1 ⟨rfl, hb⟩
    go_wp2_with fail
    go_ret
    exact ⟨rfl, hb⟩
  have t0 : decide ((200 : Int) < (l.length : Int)) = false := decide_eq_false (by omega)
  have HL := Lib.hid hl
  have C1 := Lib.hid (fun W => auName_any rule W)
  have C2 := Lib.hid (fun W => rName_any rule W)
  have C3 := Lib.hid (fun W => auName_any other W)
  have C4 := Lib.hid (fun W (hb : Below w.heap.size w W) => count_any (hl.up hb) (by omega))
  have C5 := Lib.hid (fun W (hb : Below w.heap.size w W) => rCount_any (hl.up hb) (by omega))
  have hap := Lib.hid (fun h1 h2 h3 => names_apart (a := rule) (b := other) h1 h2 h3)
  have hsame := Lib.hid (show rule = other → (nameA rule).1 = (nameA other).1 from fun h => by rw [h])
  clear hl hlen
  unfold CountPost at C4 C5
  generalize nameA rule = N at C1 C2 hap hsame
  generalize nameA other = M at C3 hap hsame
  generalize countA l = cl at C4 C5
  obtain ⟨a, e⟩ := N
  obtain ⟨c, g⟩ := M
  obtain ⟨m, h⟩ := cl
  simp only at C1 C2 C3 C4 C5 hap hsame
  go_enter Tryd.func5, Tryd.ntmps5
  go_wp2_with fail
  refine (C1.out _).mono ?_
  rintro e1 w1 ⟨rfl, hb1⟩
  have HB1 := Lib.hid hb1
  clear hb1
  go_wp2_with fail
  refine (C2.out _).mono ?_
  rintro e1 w2 ⟨rfl, hb2⟩
  have HB2 := Lib.hid (HB1.out.trans (hb2.mono HB1.out.size))
  clear hb2
  go_wp2_with fail
  refine (C3.out _).mono ?_
  rintro e1 w3 ⟨rfl, hb3⟩
  have HB3 := Lib.hid (HB2.out.trans (hb3.mono HB2.out.size))
  clear hb3
  go_wp2_with fail
  refine (C4.out _ HB3.out).mono ?_
  rintro e1 w4 ⟨A, d, rfl, hm4, hb4⟩
  have HB4 := Lib.hid (HB3.out.trans (hb4.mono HB3.out.size))
  have HM4 := Lib.hid hm4
  clear hb4 hm4
  go_wp2_with fail
  refine (C5.out _ HB4.out).mono ?_
  rintro e1 w5 ⟨A2, d2, rfl, hm5, hb5⟩
  have HB5 := Lib.hid (HB4.out.trans (hb5.mono HB4.out.size))
  have HM4' := Lib.hid (HM4.out.up hb5)
  have HM5 := Lib.hid hm5
  clear hb5 hm5
  go_wp2_with fail
  refine (ints_any HM4'.out HM5.out).mono ?_
  rw [show decide (m = m) = true by simp]
  rintro e1 w6 ⟨rfl, hb6⟩
  have HB6 := Lib.hid (HB5.out.trans (hb6.mono HB5.out.size))
  clear hb6 C1 C2 C3 C4 C5
  by_cases he : e = 0
  case neg =>
    have t1 : (e != 0) = true := by simpa using he
    go_wp2_with fail
    refine (awake_any _).mono ?_
    rintro e1 w7 ⟨rfl, hb7⟩
    have HB7 := Lib.hid (HB6.out.trans (hb7.mono HB6.out.size))
    clear hb7
    go_wp2_with fail
    go_ret
    exact ⟨rfl, HB7.out⟩
  subst he
  by_cases hg : g = 0
  case neg =>
    have t1 : (g != 0) = true := by simpa using hg
    go_wp2_with fail
    refine (awake_any _).mono ?_
    rintro e1 w7 ⟨rfl, hb7⟩
    have HB7 := Lib.hid (HB6.out.trans (hb7.mono HB6.out.size))
    clear hb7
    go_wp2_with fail
    go_ret
    exact ⟨rfl, HB7.out⟩
  subst hg
  by_cases hr : rule = other
  · have hs := hsame.out hr
    subst hr
    subst hs
    go_wp2_with fail
    refine (awake_any _).mono ?_
    rintro e1 w7 ⟨rfl, hb7⟩
    have HB7 := Lib.hid (HB6.out.trans (hb7.mono HB6.out.size))
    clear hb7
    go_wp2_with fail
    go_ret
    exact ⟨rfl, HB7.out⟩
  · have t1 : (rule == other) = false := by simpa using hr
    have t2 := hap.out rfl rfl hr
    go_wp2_with fail
    refine (awake_any _).mono ?_
    rintro e1 w7 ⟨rfl, hb7⟩
    have HB7 := Lib.hid (HB6.out.trans (hb7.mono HB6.out.size))
    clear hb7
    go_wp2_with fail
    go_ret
    exact ⟨rfl, HB7.out⟩
end Go.Proofs.YtcomfhigbjkoeaaDoor
