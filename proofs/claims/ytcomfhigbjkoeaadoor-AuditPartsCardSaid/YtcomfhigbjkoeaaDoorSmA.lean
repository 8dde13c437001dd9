/-
  Walk of audit.Name. Conditions: none.
  Walk of audit.Count. Conditions: as the theorem says.
  Walks of groundlingref32.Same and groundlinglaw15.Far. Conditions: as each theorem says.
-/
import Derived.Test.YtcomfhigbjkoeaaDoorAuA
import Derived.Test.YtcomfhigbjkoeaaDoorAuZ
namespace Go.Proofs.YtcomfhigbjkoeaaDoor
open Go.RowKit

def nameBs : List ByteArray := [⟨#[]⟩, ⟨#[114, 101, 112, 108, 121]⟩, ⟨#[114, 101, 102, 117, 115, 101, 100]⟩, ⟨#[115, 101, 115, 115, 105, 111, 110]⟩, ⟨#[111, 119, 110, 101, 114]⟩, ⟨#[112, 108, 97, 99, 101]⟩, ⟨#[99, 108, 111, 99, 107]⟩, ⟨#[100, 101, 97, 100, 108, 105, 110, 101]⟩, ⟨#[116, 97, 107, 101, 110]⟩, ⟨#[104, 111, 108, 100, 101, 114]⟩, ⟨#[118, 97, 108, 105, 100]⟩, ⟨#[115, 111, 108, 100]⟩, ⟨#[116, 105, 99, 107, 101, 116]⟩, ⟨#[108, 105, 115, 116]⟩]
/-- What Name answers. -/
def nameA (rule : Int) : ByteArray × Int := if rule < 1 ∨ 13 < rule then (⟨#[]⟩, 2) else (nameBs.getD rule.toNat ⟨#[]⟩, 0)

set_option maxHeartbeats 2000000 in
theorem auName_any (rule : Int) (w : World) : Calls Tryd.prog 13 #[.int .i64 rule] w fun e w' => e = .returned (.tuple #[.string (nameA rule).1, .int .i64 (nameA rule).2]) ∧ Below w.heap.size w w' := by
  have hk : rule < 1 ∨ 13 < rule ∨ rule = 1 ∨ rule = 2 ∨ rule = 3 ∨ rule = 4 ∨ rule = 5 ∨ rule = 6 ∨ rule = 7 ∨ rule = 8 ∨ rule = 9 ∨ rule = 10 ∨ rule = 11 ∨ rule = 12 ∨ rule = 13 := by omega
  rcases hk with hk | hk | rfl | rfl | rfl | rfl | rfl | rfl | rfl | rfl | rfl | rfl | rfl | rfl | rfl
  · have hT := Lib.hid (show nameA rule = (⟨#[]⟩, 2) by rw [nameA, if_pos (.inl hk)])
    have t1 : decide (rule < 1) = true := decide_eq_true hk
    clear hk
    go_enter Tryd.func13, Tryd.ntmps13
    go_wp2_with fail
    go_ret2
    exact ⟨by rw [hT.out]; rfl, ba _ _⟩
  · have hT := Lib.hid (show nameA rule = (⟨#[]⟩, 2) by rw [nameA, if_pos (.inr hk)])
    have t1 : decide (rule < 1) = false := decide_eq_false (by omega)
    have t2 : decide (14 ≤ rule) = true := decide_eq_true (by omega)
    clear hk
    go_enter Tryd.func13, Tryd.ntmps13
    go_wp2_with fail
    go_ret2
    exact ⟨by rw [hT.out]; rfl, ba _ _⟩
  · go_enter Tryd.func13, Tryd.ntmps13
    go_wp2_with fail
    go_ret2
    exact ⟨rfl, ba _ _⟩
  · go_enter Tryd.func13, Tryd.ntmps13
    go_wp2_with fail
    go_ret2
    exact ⟨rfl, ba _ _⟩
  · go_enter Tryd.func13, Tryd.ntmps13
    go_wp2_with fail
    go_ret2
    exact ⟨rfl, ba _ _⟩
  · go_enter Tryd.func13, Tryd.ntmps13
    go_wp2_with fail
    go_ret2
    exact ⟨rfl, ba _ _⟩
  · go_enter Tryd.func13, Tryd.ntmps13
    go_wp2_with fail
    go_ret2
    exact ⟨rfl, ba _ _⟩
  · go_enter Tryd.func13, Tryd.ntmps13
    go_wp2_with fail
    go_ret2
    exact ⟨rfl, ba _ _⟩
  · go_enter Tryd.func13, Tryd.ntmps13
    go_wp2_with fail
    go_ret2
    exact ⟨rfl, ba _ _⟩
  · go_enter Tryd.func13, Tryd.ntmps13
    go_wp2_with fail
    go_ret2
    exact ⟨rfl, ba _ _⟩
  · go_enter Tryd.func13, Tryd.ntmps13
    go_wp2_with fail
    go_ret2
    exact ⟨rfl, ba _ _⟩
  · go_enter Tryd.func13, Tryd.ntmps13
    go_wp2_with fail
    go_ret2
    exact ⟨rfl, ba _ _⟩
  · go_enter Tryd.func13, Tryd.ntmps13
    go_wp2_with fail
    go_ret2
    exact ⟨rfl, ba _ _⟩
  · go_enter Tryd.func13, Tryd.ntmps13
    go_wp2_with fail
    go_ret2
    exact ⟨rfl, ba _ _⟩
  · go_enter Tryd.func13, Tryd.ntmps13
    go_wp2_with fail
    go_ret2
    exact ⟨rfl, ba _ _⟩
end Go.Proofs.YtcomfhigbjkoeaaDoor

namespace Go.Proofs.YtcomfhigbjkoeaaDoor
open Go.RowKit

def countLoop : List (Int × Int) → List Int → List Int × Int
  | [], acc => (acc, 0)
  | f :: l, acc => if (nameA f.2).2 ≠ 0 then ([], (nameA f.2).2) else countLoop l (acc.set (f.2 - 1).toNat (acc.getD (f.2 - 1).toNat 0 + 1))
/-- What Count answers. -/
def countA (l : List (Int × Int)) : List Int × Int := countLoop l (List.replicate 13 0)

theorem Sl.atF {w : World} {A : Option Addr} {n c k : Nat} {xs : List (Int × Int)} (h : Sl faR w (.slice A n c) xs) (hk : k < xs.length) :
    ∃ b off, A = some ⟨b, off, .none⟩ ∧ b < w.heap.size ∧ w.cell? ⟨b, off + k * 2, .none⟩ = some (.int .i64 xs[k].1) ∧ w.cell? ⟨b, off + k * 2 + 1, .none⟩ = some (.int .i64 xs[k].2) ∧ Bd xs[k].1 ∧ Bd xs[k].2 := by
  obtain ⟨b, off, cs, rfl, hb, ⟨rfl, hx⟩, h2⟩ := h.at_ hk
  exact ⟨b, off, rfl, hb, h2 0 _ rfl, h2 1 _ rfl, hx⟩
theorem nameA_ok {r : Int} (h : (nameA r).2 = 0) : 1 ≤ r ∧ r ≤ 13 := by
  unfold nameA at h
  split at h
  · exact absurd h (by decide)
  · omega

def CountPost (w : World) (l : List (Int × Int)) (e : Ending) (w' : World) : Prop := ∃ A c, e = .returned (.tuple #[.slice A (countA l).1.length c, .int .i64 (countA l).2]) ∧ Sl intR w' (.slice A (countA l).1.length c) (countA l).1 ∧ Below w.heap.size w w'

set_option maxHeartbeats 4000000 in
theorem count_any {w : World} {L : Option Addr} {lc : Nat} {l : List (Int × Int)} (hl : Sl faR w (.slice L l.length lc) l) (hn : l.length ≤ 1000000) : Calls Tryd.prog 15 #[.slice L l.length lc] w (CountPost w l) := by
  have hmk : ∀ w, (Instr.makeSlice 56 (.int .i64 13) (.int .i64 13)).run Tryd.prog w = .ok (.slice (some ⟨w.heap.size, 0, none⟩) 13 13) (w.alloc (.cells (madeCells #[.int .i64 0] 13) 3)) := fun w => mk_ints 13 (by omega) w
  have hcap := hl.cap
  have HL := Lib.hid hl
  have hC : countA l = countLoop l (List.replicate 13 0) := rfl
  have HC0 := Lib.hid hC
  clear hl hC
  go_enter Tryd.func15, Tryd.ntmps15
  go_wp2_with fail
  refine at_world (fun W => Own intR 3 w.heap.size W (.slice (some ⟨w.heap.size, 0, none⟩) 13 13) (List.replicate 13 0) ∧ Below w.heap.size w W) ⟨own_zeros w 13 (by omega), ba _ _⟩ fun w0 ⟨ho0, hb0⟩ => ?_
  have HO0 := Lib.hid ho0
  have HB0 := Lib.hid hb0
  clear ho0 hb0 hmk
  go_loopw [12] (fun i wr => ∃ k : Nat, k ≤ l.length ∧ i = .int .i64 k ∧ ∃ acc : List Int, acc.length = 13 ∧ Hid (∀ j, (h : j < acc.length) → 0 ≤ acc[j] ∧ acc[j] ≤ k) ∧ Hid (Own intR 3 w.heap.size wr (.slice (some ⟨w.heap.size, 0, none⟩) 13 13) acc) ∧ Hid (Below w.heap.size w wr) ∧ Hid (countA l = countLoop (l.drop k) acc)) (fun i _ => l.length - (intOf i).toNat)
  case atStart => exact ⟨0, by omega, rfl, _, by simp, Lib.hid fun j h => by rw [List.getElem_replicate]; omega, HO0, HB0, HC0⟩
  case round =>
    obtain ⟨k, hk, rfl, acc, hal, hac, HO, HB, HC⟩ := hrel
    by_cases hlt : k < l.length
    · obtain ⟨bl, off, hA, hbl, d0, d1, hb1, hb2⟩ := (HL.out.up HB.out).atF hlt
      subst hA
      have hC := HC.out
      rw [List.drop_eq_getElem_cons hlt] at hC
      simp only [countLoop] at hC
      generalize l[k] = f at d0 d1 hb1 hb2 hC
      obtain ⟨st, ru⟩ := f
      simp only at d0 d1 hb1 hb2 hC
      have C1 := Lib.hid (fun W => auName_any ru W)
      have hok := Lib.hid (fun h => nameA_ok (r := ru) h)
      generalize nameA ru = N at C1 hC hok
      obtain ⟨nm, e⟩ := N
      simp only at C1 hC hok
      have HC' := Lib.hid hC
      have HAL := Lib.hid hal
      clear hC hal HC
      go_wp2_with fail
      refine (C1.out _).mono ?_
      rintro e1 w4 ⟨rfl, hb4⟩
      have k4 := (Cells.new wr [.int .i64 st, .int .i64 ru] 52).later hb4
      have g1 := k4.c 1 _ rfl
      have y4 := k4.lt
      have HB4 := Lib.hid (HB.out.trans (((ba wr _).trans (hb4.mono (ba wr _).size)).mono HB.out.size))
      have HO4 := Lib.hid ((HO.out.up (ba _ _)).up hb4)
      clear hb4 k4 d0 d1 C1
      by_cases he : e = 0
      · subst he
        obtain ⟨r1, r2⟩ := hok.out rfl
        obtain ⟨m, hm⟩ := Int.eq_ofNat_of_zero_le (show 0 ≤ ru - 1 by omega)
        have hm' : ru = (m : Int) + 1 := by omega
        subst hm'
        have hml : m < acc.length := by rw [HAL.out]; omega
        have hC := HC'.out
        simp only [ne_eq, not_true_eq_false, if_false, hm, Int.toNat_natCast, List.getD_eq_getElem?_getD, List.getElem?_eq_getElem hml, Option.getD_some] at hC
        have HC := Lib.hid hC
        obtain ⟨_, _, hcs, fd⟩ := HO4.out.cell_ hml
        have HB1 := HO4.out.block
        obtain ⟨b', off', hB', _, d0, hbd⟩ := HO4.out.sl.atI hml
        obtain ⟨rfl, rfl⟩ : w.heap.size = b' ∧ 0 = off' := by injection hB' with hB'; injection hB' with h1 h2; exact ⟨h1, h2⟩
        rw [Nat.zero_add] at d0
        have f0 := fd m
        have z0 := HB1.2.1
        obtain ⟨q1, q2⟩ := hac.out m hml
        have hput := HO4.out.putI hml (x := acc[m] + 1) ⟨by omega, by omega⟩
        have HP := Lib.hid hput
        have hM : IntKind.i64.wrap ((m : Int) + 1 - 1) = (m : Int) := by rw [show (m : Int) + 1 - 1 = m by omega]; exact IntWalk.i64_in _ (by omega)
        have hW : IntKind.i64.wrap (acc[m] + 1) = acc[m] + 1 := IntWalk.i64_in _ (by omega)
        clear hcs fd hm hC hput HB1 hB' hbd
        go_wp2_with fail
        go_roundw
        case rel =>
          refine ⟨k + 1, by omega, by go_num, acc.set m (acc[m] + 1), by rw [List.length_set]; exact HAL.out, Lib.hid fun j hj => ?_, Lib.hid HP.out.1, Lib.hid (HB4.out.grown HP.out.2 HB4.out.size (fun j hj => by injection hj with hj; omega)), HC⟩
          by_cases ej : m = j
          · subst ej
            rw [List.getElem_set_self]
            omega
          · rw [List.getElem_set_ne ej]
            have := hac.out j (by simpa using hj)
            omega
        case measure => simp [intOf]; omega
      · have t0 : (e != 0) = true := by simpa using he
        have hC := HC'.out
        rw [if_pos he] at hC
        have HC := Lib.hid hC
        clear hC
        go_wp2_with fail
        go_ret2
        exact ⟨none, 0, by rw [HC.out]; rfl, by rw [HC.out]; exact Sl.none _ _, HB4.out⟩
    · obtain rfl : k = l.length := by omega
      have hC := HC.out
      rw [List.drop_length] at hC
      simp only [countLoop] at hC
      have HC' := Lib.hid hC
      clear hC
      go_wp2_with fail
      go_ret2
      exact ⟨_, 13, by rw [HC'.out, hal]; rfl, by rw [HC'.out, hal]; exact HO.out.sl, HB.out⟩
end Go.Proofs.YtcomfhigbjkoeaaDoor

namespace Go.Proofs.YtcomfhigbjkoeaaDoor
open Go.RowKit

theorem eq_of_at {α : Type} {xs ys : List α} (hl : xs.length = ys.length) (h : ∀ j, (h1 : j < xs.length) → (h2 : j < ys.length) → xs[j] = ys[j]) : xs = ys := List.ext_getElem hl h

set_option maxHeartbeats 2000000 in
theorem sameF_any {w : World} {A B : Option Addr} {ca cb : Nat} {xs ys : List (Int × Int)} (ha : Sl faR w (.slice A xs.length ca) xs) (hb : Sl faR w (.slice B ys.length cb) ys) :
    Calls Tryd.prog 12 #[.slice A xs.length ca, .slice B ys.length cb] w fun e w' => e = .returned (.bool (decide (xs = ys))) ∧ Below w.heap.size w w' := by
  have hca := ha.cap
  have hcb := hb.cap
  have HA := Lib.hid ha
  have HB := Lib.hid hb
  clear ha hb
  by_cases hl : xs.length = ys.length
  case neg =>
    have t0 : ((xs.length : Int) != (ys.length : Int)) = true := by simp; omega
    have hT := Lib.hid (show decide (xs = ys) = false from decide_eq_false fun h => hl (by rw [h]))
    generalize decide (xs = ys) = M at hT ⊢
    go_enter Tryd.func12, Tryd.ntmps12
    go_wp2_with fail
    go_ret
    exact ⟨ret_bool hT.out.symm, Below.refl _ _⟩
  have t0 : ((xs.length : Int) != (ys.length : Int)) = false := by simp; omega
  have HL := Lib.hid hl
  have hll : ys.length ≤ xs.length := by omega
  clear hl
  obtain ⟨M, hM⟩ : ∃ M, decide (xs = ys) = M := ⟨_, rfl⟩
  rw [hM]
  have HM := Lib.hid hM
  clear hM
  go_enter Tryd.func12, Tryd.ntmps12
  go_wp2_with fail
  go_loopw [5] (fun i wr => ∃ k : Nat, k ≤ xs.length ∧ i = .int .i64 k ∧ Hid (Below w.heap.size w wr) ∧ Hid (∀ j, (h1 : j < xs.length) → (h2 : j < ys.length) → j < k → xs[j] = ys[j])) (fun i _ => xs.length - (intOf i).toNat)
  case atStart => exact ⟨0, by omega, rfl, Lib.hid (Below.refl _ _), Lib.hid fun j _ _ h => by omega⟩
  case round =>
    obtain ⟨k, hk, rfl, HW, hall⟩ := hrel
    by_cases hlt : k < xs.length
    · have hlt2 : k < ys.length := by have := HL.out; omega
      obtain ⟨b1, o1, hA, _, d0, d1, _, _⟩ := (HA.out.up HW.out).atF hlt
      obtain ⟨b2, o2, hB, _, e0, e1, _, _⟩ := (HB.out.up HW.out).atF hlt2
      subst hA
      subst hB
      have hne := Lib.hid (show xs[k] ≠ ys[k] → M = false from fun h => by rw [← HM.out]; exact decide_eq_false fun e => h (by simp only [e]))
      have hnx := Lib.hid (show xs[k] = ys[k] → ∀ j, (h1 : j < xs.length) → (h2 : j < ys.length) → j < k + 1 → xs[j] = ys[j] from fun h j h1 h2 hj => by
        by_cases e : j = k
        · subst e; exact h
        · exact hall.out j h1 h2 (by omega))
      generalize xs[k] = x at d0 d1 hne hnx
      generalize ys[k] = y at e0 e1 hne hnx
      obtain ⟨x1, x2⟩ := x
      obtain ⟨y1, y2⟩ := y
      simp only at d0 d1 e0 e1
      by_cases h1 : x1 = y1
      · subst h1
        by_cases h2 : x2 = y2
        · subst h2
          go_wp2_with fail
          go_quiet (fail)
          go_wp2_with fail
          go_roundw
          case rel => exact ⟨k + 1, by omega, by go_num, Lib.hid (bdN HW.out _), Lib.hid (hnx.out (by first | trivial | rfl))⟩
          case measure => simp [intOf]; omega
        · have t1 : (x2 == y2) = false := by simpa using h2
          have t2 : (x2 != y2) = true := by simpa using h2
          have hm := Lib.hid (hne.out (fun h => h2 (by injection h)))
          go_wp2_with fail
          go_quiet (fail)
          go_wp2_with fail
          go_ret
          exact ⟨ret_bool hm.out.symm, bdN HW.out _⟩
      · have t1 : (x1 == y1) = false := by simpa using h1
        have t2 : (x1 != y1) = true := by simpa using h1
        have hm := Lib.hid (hne.out (fun h => h1 (by injection h)))
        go_wp2_with fail
        go_quiet (fail)
        go_wp2_with fail
        go_ret
        exact ⟨ret_bool hm.out.symm, bdN HW.out _⟩
    · have hm := Lib.hid (show M = true by rw [← HM.out]; exact decide_eq_true (eq_of_at HL.out fun j h1 h2 => hall.out j h1 h2 (by omega)))
      go_wp2_with fail
      go_ret
      exact ⟨ret_bool hm.out.symm, HW.out⟩

def FarPost (w : World) (e : Ending) (w' : World) : Prop := ∃ b : Bool, e = .returned (.bool b) ∧ Below w.heap.size w w'

set_option maxRecDepth 20000 in
set_option maxHeartbeats 8000000 in
theorem far_any {w : World} {V : Option Addr} {vc : Nat} {x : Ve} (hv : Sl secR w (.slice V x.secs.length vc) x.secs) :
    Calls Tryd.prog 7 #[.agg #[.int .i64 x.shards, .int .i64 x.ttl, .int .i64 x.session, .slice V x.secs.length vc]] w (FarPost w) := by
  have hcap := hv.cap
  have HV := Lib.hid hv
  clear hv
  by_cases hl : 10 < x.secs.length
  · have t0 : decide ((10 : Int) < (x.secs.length : Int)) = true := decide_eq_true (by omega)
    go_enter Tryd.func7, Tryd.ntmps7
    go_wp2_with fail
    go_ret
    exact ⟨true, rfl, ba _ _⟩
  have t0 : decide ((10 : Int) < (x.secs.length : Int)) = false := decide_eq_false (by omega)
  go_enter Tryd.func7, Tryd.ntmps7
  go_wp2_with fail
  refine at_world (fun W => Below w.heap.size w W ∧ Cells W w.heap.size [.int .i64 x.shards, .int .i64 x.ttl, .int .i64 x.session, .slice V x.secs.length vc]) ⟨ba _ _, Cells.new _ _ _⟩ fun w0 ⟨hb0, k0⟩ => ?_
  have HB0 := Lib.hid hb0
  have HK0 := Lib.hid k0
  clear hb0 k0
  go_loopw [3, 4] (fun n i wr => ∃ k : Nat, k ≤ x.secs.length ∧ i = .int .i64 k ∧ ∃ m : Int, n = .int .i64 m ∧ 0 ≤ m ∧ m ≤ 2000 * k ∧ Hid (Below w0.heap.size w0 wr)) (fun _ i _ => x.secs.length - (intOf i).toNat)
  case atStart => exact ⟨0, by omega, rfl, 0, rfl, by omega, by omega, Lib.hid (Below.refl _ _)⟩
  case round =>
    obtain ⟨k, hk, rfl, m, rfl, hm0, hm1, HW⟩ := hrel
    have k1 := HK0.out.later HW.out
    have c3 := k1.c 3 _ rfl
    have y1 := k1.lt
    have HBW := Lib.hid (HB0.out.trans (HW.out.mono HB0.out.size))
    clear k1
    by_cases hlt : k < x.secs.length
    · obtain ⟨b, off, A', c', hA, hbl, d0, d1, d2, hin, _, hns⟩ := (HV.out.up HBW.out).atS hlt
      subst hA
      have HIN := Lib.hid hin
      have hcap2 := hin.cap
      clear hin
      generalize x.secs[k].rows = rs at d1 HIN hcap2
      generalize x.secs[k].name = nm at d0 hns
      generalize x.secs[k].queue = q at d2
      by_cases h1 : 20 < rs.length
      · have t1 : decide ((20 : Int) < (rs.length : Int)) = true := decide_eq_true (by omega)
        go_wp2_with fail
        go_ret
        exact ⟨true, rfl, bal HBW.out⟩
      have t1 : decide ((20 : Int) < (rs.length : Int)) = false := decide_eq_false (by omega)
      by_cases h2 : 100 < nm.size
      · have t2 : decide ((100 : Int) < (nm.size : Int)) = true := decide_eq_true (by omega)
        go_wp2_with fail
        go_ret
        exact ⟨true, rfl, bal HBW.out⟩
      have t2 : decide ((100 : Int) < (nm.size : Int)) = false := decide_eq_false (by omega)
      go_wp2_with fail
      refine at_world (fun W => Below wr.heap.size wr W ∧ Cells W wr.heap.size [.string nm, .slice A' rs.length c', .int .i64 q]) ⟨ba _ _, Cells.new _ _ _⟩ fun wo ⟨hb1, k2⟩ => ?_
      have HB1 := Lib.hid hb1
      have HK2 := Lib.hid k2
      have e1 := k2.c 1 _ rfl
      have y2 := k2.lt
      clear hb1 k2 d0 d1 d2 c3 y1
      go_loop [3, 6] (fun n j => ∃ l : Nat, l ≤ rs.length ∧ j = .int .i64 l ∧ ∃ m' : Int, n = .int .i64 m' ∧ 0 ≤ m' ∧ m' ≤ 2000 * k + 100 * l) (fun _ j => rs.length - (intOf j).toNat)
      case atStart => exact ⟨0, by omega, rfl, m, rfl, by omega, by omega⟩
      case round =>
        obtain ⟨l, hll, rfl, m', rfl, hm2, hm3⟩ := hrel
        by_cases hl2 : l < rs.length
        · obtain ⟨b3, o3, hA3, _, g0, hbd⟩ := (HIN.out.up HB1.out).atI hl2
          subst hA3
          generalize rs[l] = r at g0 hbd
          by_cases h3 : 0 < r
          · have t3 : decide (0 < r) = true := decide_eq_true h3
            by_cases h4 : r ≤ 100
            · have t4 : decide (r ≤ 100) = true := decide_eq_true h4
              have hW : IntKind.i64.wrap (m' + r) = m' + r := IntWalk.i64_in _ (by omega)
              go_wp2_with fail
              go_round
              case rel => exact ⟨l + 1, by omega, by go_num, m' + r, rfl, by omega, by omega⟩
              case measure => simp [intOf]; omega
            · have t4 : decide (r ≤ 100) = false := decide_eq_false h4
              go_wp2_with fail
              go_round
              case rel => exact ⟨l + 1, by omega, by go_num, m', rfl, by omega, by omega⟩
              case measure => simp [intOf]; omega
          · have t3 : decide (0 < r) = false := decide_eq_false h3
            go_wp2_with fail
            go_round
            case rel => exact ⟨l + 1, by omega, by go_num, m', rfl, by omega, by omega⟩
            case measure => simp [intOf]; omega
        · go_wp2_with fail
          go_roundw
          case rel => exact ⟨k + 1, by omega, by go_num, m', rfl, by omega, by omega, Lib.hid (HW.out.trans (HB1.out.mono HW.out.size))⟩
          case measure => simp [intOf]; omega
    · go_wp2_with fail
      go_ret
      exact ⟨_, rfl, HBW.out⟩

end Go.Proofs.YtcomfhigbjkoeaaDoor
