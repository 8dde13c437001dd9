/-
  Walks of venue.rows and of the iterator that it hands back. Conditions: as each theorem says.
-/
import Derived.RangeFuncNested
import Derived.RangeFuncBound
import Derived.RangeFuncCalls
import Derived.RangeFuncLeaves
import Derived.Shelf.Abstract
import Derived.Shelf.RegionOpen
import Derived.WalkKit
import Derived.OwnWalkIn
import Derived.TacticsInMore
import Derived.LoopNIn
import Derived.LoopIn
import Derived.Test.YtcomfhigbjkoeaaGreatDoorVnE
namespace Go.Proofs.YtcomfhigbjkoeaaGreatDoor
open Go.RowKit Go.Shelf
attribute [local go_sem] Oper.semAt_some

/-- A row of a venue. -/
structure Rw where
  sec : Int
  row : Int
  first : Int
  many : Int

def rwEnc (x : Rw) : Array Value := #[.agg #[.int .i64 x.sec, .int .i64 x.row, .int .i64 x.first, .int .i64 x.many]]

/-- The rows of a section, from a number and a first seat on. -/
def rowsOf (i : Int) : List Int → Int → Int → List Rw
  | [], _, _ => []
  | n :: l, k, f => ⟨i, k, f, n⟩ :: rowsOf i l (k + 1) (f + n)
/-- The rows of sections. -/
def rws : List Sec → Int → Int → List Rw
  | [], _, _ => []
  | s :: l, i, f => rowsOf i s.rows 0 f ++ rws l (i + 1) (f + sum s.rows)

theorem rowsOf_append (i : Int) : ∀ (a b : List Int) (k f : Int), rowsOf i (a ++ b) k f = rowsOf i a k f ++ rowsOf i b (k + a.length) (f + sum a)
  | [], b, k, f => by simp [rowsOf, sum]
  | n :: a, b, k, f => by
    simp only [List.cons_append, rowsOf, sum, List.length_cons]
    rw [rowsOf_append i a b (k + 1) (f + n), show k + 1 + (a.length : Int) = k + ((a.length + 1 : Nat) : Int) from by omega, show f + n + sum a = f + (n + sum a) from by omega]
theorem rws_append : ∀ (a b : List Sec) (i f : Int), rws (a ++ b) i f = rws a i f ++ rws b (i + a.length) (f + sum (a.flatMap (·.rows)))
  | [], b, i, f => by simp [rws, sum]
  | s :: a, b, i, f => by
    simp only [List.cons_append, rws, List.flatMap_cons, List.length_cons, List.append_assoc]
    rw [rws_append a b (i + 1) (f + sum s.rows), sum_append, show i + 1 + (a.length : Int) = i + ((a.length + 1 : Nat) : Int) from by omega, show f + sum s.rows + sum (a.flatMap (·.rows)) = f + (sum s.rows + sum (a.flatMap (·.rows))) from by omega]

/-- What has come when k rows of section number i are over. -/
def come (secs : List Sec) (i k : Nat) : List Rw := rws (secs.take i) 0 0 ++ rowsOf i (((secs[i]?.map (·.rows)).getD []).take k) 0 (upTo secs i)

theorem come_next {secs : List Sec} {i k : Nat} (hi : i < secs.length) (hk : k < secs[i].rows.length) :
    come secs i (k + 1) = come secs i k ++ [⟨i, k, upTo secs i + sum (secs[i].rows.take k), secs[i].rows[k]⟩] := by
  simp only [come, List.getElem?_eq_getElem hi, Option.map_some, Option.getD_some]
  rw [List.take_succ_eq_append_getElem hk, rowsOf_append]
  simp [rowsOf, Nat.min_eq_left (Nat.le_of_lt hk)]
theorem come_all {secs : List Sec} {i : Nat} (hi : i < secs.length) : come secs i secs[i].rows.length = rws (secs.take (i + 1)) 0 0 := by
  simp only [come, List.getElem?_eq_getElem hi, Option.map_some, Option.getD_some]
  rw [List.take_succ_eq_append_getElem hi, rws_append]
  simp [rws, upTo, Nat.min_eq_left (Nat.le_of_lt hi)]
theorem come_zero (secs : List Sec) (i : Nat) : come secs i 0 = rws (secs.take i) 0 0 := by simp [come, rowsOf]
theorem come_pre {secs : List Sec} {i k : Nat} (hi : i < secs.length) (hk : k ≤ secs[i].rows.length) : ∃ r, rws secs 0 0 = come secs i k ++ r := by
  have h1 : ∀ (k : Nat), k ≤ secs[i].rows.length → ∃ r, rws (secs.take (i + 1)) 0 0 = come secs i k ++ r := fun k hk => by
    rw [← come_all hi]
    simp only [come, List.getElem?_eq_getElem hi, Option.map_some, Option.getD_some, List.take_length]
    have h2 := rowsOf_append i (secs[i].rows.take k) (secs[i].rows.drop k) 0 (upTo secs i)
    rw [List.take_append_drop] at h2
    rw [h2, ← List.append_assoc]
    exact ⟨_, rfl⟩
  obtain ⟨r, hr⟩ := h1 k hk
  have h3 := rws_append (secs.take (i + 1)) (secs.drop (i + 1)) 0 0
  rw [List.take_append_drop] at h3
  rw [h3, hr, List.append_assoc]
  exact ⟨_, rfl⟩

/-- Sections as Check lets them by. -/
def SecsOk (secs : List Sec) : Prop := secs.length ≤ 8 ∧ ∀ j, (hj : j < secs.length) → secE secs[j] (secs.take j) = 0

set_option maxRecDepth 100000 in
set_option maxHeartbeats 4000000 in
theorem rows1_in (F : Fence) (n : Nat) (hF : F.fn 58) (hro : F.round = none) (hn : 1 ≤ n) (l Bn : Nat) (w0 : World) (A : Option Addr) (c : Nat) (secs : List Sec) (hs : Sl secR w0 (.slice A secs.length c) secs) (hok : SecsOk secs)
    (J Jx : List Rw → World → Prop) (W : World) (hJ : AbidesFrom W.heap.size J)
    (hY : ∀ pre x W, J pre W → pre.length < (rws secs 0 0).length → YieldAt F (n - 1) Tryz.prog l (rwEnc x) W fun e W' =>
      (e = .returned (.bool true) ∧ J (pre ++ [x]) W' ∧ Below w0.heap.size W W') ∨ (e = .returned (.bool false) ∧ Jx (pre ++ [x]) W'))
    (hb : Below w0.heap.size w0 W) (hBn : W.cell? ⟨Bn, 3, none⟩ = some (.slice A secs.length c)) (h0 : J [] W) :
    CallsIn F n Tryz.prog 58 #[.func (.yield l) #[] #[], .pointer (some ⟨Bn, 0, none⟩)] W fun e W' => (∃ v, e = .returned v) ∧
      ((∃ ys, ys = rws secs 0 0 ∧ J ys W') ∨ (∃ pre, pre <+: rws secs 0 0 ∧ Jx pre W')) := by
  have hl : secs.length ≤ 8 := hok.1
  refine callsIn_of_wp Tryz.func58 rfl hF ?_ hro
  simp only [Tryz.ntmps58, List.size_toArray, List.length_cons, List.length_nil, Nat.reduceAdd, Nat.reduceSub, Array.replicate_succ, Array.replicate_zero, List.push_toArray, List.append_toArray, List.nil_append, List.cons_append]
  gi_wp2
  gi_loopw [3, 11] (fun f i wr => ∃ k : Nat, k ≤ secs.length ∧ i = .int .i64 k ∧ f = .int .i64 (upTo secs k) ∧ Hid (Below w0.heap.size w0 wr ∧ Below W.heap.size W W ∧ W.heap.size ≤ wr.heap.size ∧ J (rws (secs.take k) 0 0) wr)) (fun _ i _ => secs.length - (intOf i).toNat)
  case atStart => exact ⟨0, by omega, rfl, rfl, hb, Below.refl _ _, Nat.le_refl _, h0⟩
  case round =>
    obtain ⟨k, hk, rfl, rfl, hb1⟩ := hrel
    obtain ⟨hb1, _, hz1, hJ1⟩ := hb1.out
    have hU := upTo_bd hk fun j hj _ => hok.2 j hj
    by_cases hlt : k < secs.length
    · obtain ⟨b, off, A', c', rfl, hbl, e0, e1, e2, hin, _, _⟩ := hs.atS hlt
      have e0' := cell_later hb1 e0
      have e1' := cell_later hb1 e1
      have e2' := cell_later hb1 e2
      have hk0 : (0 : Int) ≤ (k : Int) := by omega
      have hk1 : (k : Int) < (secs.length : Int) := by omega
      have hsec := secE_ok (hok.2 k hlt)
      have HSEC := Lib.hid hsec
      have hrl : secs[k].rows.length ≤ 16 := hsec.1
      have HIN := Lib.hid hin
      have H1 := Lib.hid (And.intro hb1 (And.intro hz1 hJ1))
      clear hb1 hJ1 hsec hin
      gi_wp2
      gi_loopw [3, 19] (fun f i wi => ∃ (j : Nat) (a : Int), j ≤ secs[k].rows.length ∧ i = .int .i64 j ∧ f = .int .i64 a ∧ Hid (a = upTo secs k + sum (secs[k].rows.take j)) ∧ Hid (Below w0.heap.size w0 wi ∧ W.heap.size ≤ wi.heap.size ∧ J (come secs k j) wi) ∧ 0 ≤ a ∧ a ≤ 10240) (fun _ i _ => secs[k].rows.length - (intOf i).toNat)
      case atStart =>
        exact ⟨0, upTo secs k, by omega, rfl, rfl, Lib.hid (by simp [sum]), Lib.hid ⟨H1.out.1.alloc H1.out.1.size _, by simp; omega, by rw [come_zero]; exact hJ _ _ _ none H1.out.2.2 (World.grownBy_alloc _ _ none) (fun r e => by cases e)⟩, hU.1, by omega⟩
      case round =>
        obtain ⟨j, a, hj, rfl, rfl, ha, hbj, ha0, ha1⟩ := hrel
        obtain ⟨hb2, hz2, hJ2⟩ := hbj.out
        by_cases hjt : j < secs[k].rows.length
        · obtain ⟨b2, off2, rfl, hbl2, e3, _⟩ := (HIN.out.up hb2).atI hjt
          have hn := HSEC.out.2.1 _ (List.getElem_mem hjt)
          have hj0 : (0 : Int) ≤ (j : Int) := by omega
          have hj1 : (j : Int) < (secs[k].rows.length : Int) := by omega
          have hsn := Lib.hid (show sum (secs[k].rows.take (j + 1)) = sum (secs[k].rows.take j) + secs[k].rows[j] by rw [List.take_succ_eq_append_getElem hjt, sum_snoc])
          have hbd := sum_bd (m := 64) (by decide) (l := secs[k].rows.take j) fun n hn => by have := HSEC.out.2.1 n (List.mem_of_mem_take hn); omega
          have hlen : ((secs[k].rows.take j).length : Int) ≤ 16 := by simp; omega
          have ha2 : a ≤ 9216 := by have := ha.out; omega
          clear hbd hlen
          have hcn := come_next hlt hjt
          rw [← ha.out] at hcn
          obtain ⟨r, hr⟩ := come_pre hlt (k := j + 1) (by omega)
          have hlen2 : (come secs k j).length < (rws secs 0 0).length := by rw [hr, hcn]; simp
          obtain ⟨fn, tmps, assign, body, hy, hR⟩ := hY (come secs k j) ⟨k, j, a, secs[k].rows[j]⟩ _ hJ2 hlen2
          simp only [rwEnc] at hy
          rw [← hcn] at hR
          have HR := Lib.hid hr
          have HB2 := Lib.hid (And.intro hb2 hz2)
          clear hcn hr hlen2 hb2 hJ2 hz2
          generalize hrr : secs[k].rows[j] = q at e3 hn hsn hy hR
          clear hrr
          gi_wp2
          refine hR.mono ?_
          rintro e W3 (⟨rfl, hJ3, hk3⟩ | ⟨rfl, hJx3⟩)
          · gi_wp2
            go_roundw
            case rel => exact ⟨j + 1, a + q, by omega, by go_num, by go_num, Lib.hid (by rw [hsn.out, ha.out]; omega), Lib.hid ⟨HB2.out.1.trans hk3, Nat.le_trans HB2.out.2 hk3.size, hJ3⟩, by omega, by omega⟩
            case measure => simp [intOf]; omega
          · gi_wp2
            refine bodyPost_ret (results_none rfl _ _ _) rfl ?_
            exact ⟨⟨_, rfl⟩, .inr ⟨_, ⟨r, HR.out.symm⟩, hJx3⟩⟩
        · obtain rfl : j = secs[k].rows.length := by omega
          have hend := Lib.hid (show a = upTo secs (k + 1) by rw [upTo_succ hlt, ha.out, List.take_length])
          have H2 := Lib.hid (And.intro hb2 (And.intro hz2 hJ2))
          clear hb2 hz2 hJ2
          gi_wp2
          go_roundw
          case rel => exact ⟨k + 1, by omega, by go_num, by rw [hend.out], H2.out.1, Below.refl _ _, H2.out.2.1, by rw [← come_all hlt]; exact H2.out.2.2⟩
          case measure => simp [intOf]; omega
    · obtain rfl : k = secs.length := by omega
      rw [List.take_length] at hJ1
      gi_wp2
      go_end0
      exact ⟨⟨_, rfl⟩, .inl ⟨_, rfl, hJ1⟩⟩
end Go.Proofs.YtcomfhigbjkoeaaGreatDoor
