/-
  Walk of venue.Check. Conditions: as the theorem says.
-/
import Derived.Test.YtcomfhigbjkoeaaGreatDoorVnD
import Derived.Test.YtcomfhigbjkoeaaGreatDoorLibQ
import Derived.IntWalk
namespace Go.Proofs.YtcomfhigbjkoeaaGreatDoor
open Go.RowKit

theorem sum_append : ∀ (a b : List Int), sum (a ++ b) = sum a + sum b
  | [], b => by simp [sum]
  | x :: a, b => by simp only [List.cons_append, sum]; rw [sum_append a b]; omega
theorem sum_snoc (a : List Int) (x : Int) : sum (a ++ [x]) = sum a + x := by rw [sum_append]; simp [sum]
theorem sum_bd {m : Int} (hm : 0 ≤ m) : ∀ {l : List Int}, (∀ n, n ∈ l → 0 ≤ n ∧ n ≤ m) → 0 ≤ sum l ∧ sum l ≤ l.length * m
  | [], _ => by simp [sum]
  | x :: l, h => by
    have h1 := h x (by simp)
    have h2 := sum_bd hm (l := l) fun n hn => h n (by simp [hn])
    simp only [sum, List.length_cons]
    have h3 : ((l.length + 1 : Nat) : Int) * m = l.length * m + m := by rw [Int.natCast_add, Int.add_mul]; simp
    omega

theorem secE_ok {x : Sec} {before : List Sec} (h : secE x before = 0) : x.rows.length ≤ 16 ∧ (∀ n, n ∈ x.rows → 1 ≤ n ∧ n ≤ 64) ∧ 0 ≤ x.queue ∧ x.queue ≤ 64 ∧ 1 ≤ x.rows.length := by
  unfold secE at h
  split at h
  · cases h
  split at h
  · cases h
  split at h
  · cases h
  split at h
  · cases h
  split at h
  · cases h
  split at h
  · cases h
  · rename_i h1 h2 h3 h4 h5 h6
    refine ⟨by omega, fun n hn => ?_, ?_, ?_, by omega⟩
    · have h7 : outB n 1 64 = false := by
        cases hb : outB n 1 64 with
        | false => rfl
        | true => exact absurd (List.any_eq_true.2 ⟨n, hn, hb⟩) h5
      simp [outB] at h7
      omega
    · simp [outB] at h6; omega
    · simp [outB] at h6; omega

theorem secsE_none : ∀ {xs before : List Sec} {i : Nat}, (∀ j, (hj : j < xs.length) → secE xs[j] (before ++ xs.take j) = 0) → secsE before xs i = none
  | [], _, _, _ => rfl
  | x :: xs, before, i, h => by
    have h0 := h 0 (by simp)
    simp only [List.getElem_cons_zero, List.take_zero, List.append_nil] at h0
    unfold secsE
    rw [if_neg (by simp [h0])]
    refine secsE_none fun j hj => ?_
    have := h (j + 1) (by simpa using hj)
    simpa [List.take_succ_cons] using this

theorem secsE_some : ∀ {xs before : List Sec} {i k : Nat} (hk : k < xs.length), (∀ j, (hj : j < k) → secE (xs[j]'(by omega)) (before ++ xs.take j) = 0) → secE xs[k] (before ++ xs.take k) ≠ 0 →
    secsE before xs i = some (i + k, secE xs[k] (before ++ xs.take k))
  | [], _, _, _, hk, _, _ => by simp at hk
  | x :: xs, before, i, 0, _, _, h => by
    unfold secsE
    simp only [List.getElem_cons_zero, List.take_zero, List.append_nil] at h ⊢
    rw [if_pos h]
    rfl
  | x :: xs, before, i, k + 1, hk, h, hne => by
    have h0 := h 0 (by omega)
    simp only [List.getElem_cons_zero, List.take_zero, List.append_nil] at h0
    unfold secsE
    rw [if_neg (by simp [h0])]
    have h1 : ∀ j, (hj : j < k) → secE (xs[j]'(by simp at hk; omega)) (before ++ [x] ++ xs.take j) = 0 := fun j hj => by
      have := h (j + 1) (by omega)
      simpa [List.take_succ_cons] using this
    have h2 : secE (xs[k]'(by simpa using hk)) (before ++ [x] ++ xs.take k) ≠ 0 := by simpa [List.take_succ_cons] using hne
    rw [secsE_some (by simpa using hk) h1 h2]
    simp [List.take_succ_cons]
    omega

/-- What stands in the first sections. -/
def upTo (xs : List Sec) (k : Nat) : Int := sum ((xs.take k).flatMap (·.rows))
theorem upTo_succ {xs : List Sec} {k : Nat} (hk : k < xs.length) : upTo xs (k + 1) = upTo xs k + sum xs[k].rows := by
  rw [upTo, List.take_succ_eq_append_getElem hk, List.flatMap_append, sum_append]
  simp [upTo]
theorem upTo_bd {xs : List Sec} : ∀ {k : Nat}, k ≤ xs.length → (∀ j, (hj : j < xs.length) → j < k → secE xs[j] (xs.take j) = 0) → 0 ≤ upTo xs k ∧ upTo xs k ≤ 1024 * k
  | 0, _, _ => by simp [upTo, sum]
  | k + 1, hk, h => by
    have ih := upTo_bd (k := k) (by omega) fun j hj hjk => h j hj (by omega)
    rw [upTo_succ (by omega)]
    have h1 := secE_ok (h k (by omega) (by omega))
    have h2 := sum_bd (m := 64) (by decide) (l := (xs[k]'(by omega)).rows) fun n hn => by have := h1.2.1 n hn; omega
    omega

theorem sl_first {α : Type} {R : Rep α} {w : World} {A : Option Addr} {n c j : Nat} {xs : List α} (h : Sl R w (.slice A n c) xs) (hj : j ≤ xs.length) (hpos : 0 < xs.length) : Sl R w (.slice A j c) (xs.take j) := by
  obtain ⟨A', c', he, h1, h2, h3⟩ := h
  injection he with e1 e2 e3
  subst e1 e2 e3
  refine ⟨A, c, by rw [List.length_take, Nat.min_eq_left hj], by rw [List.length_take]; omega, h2, ?_⟩
  rcases h3 with ⟨_, h4⟩ | ⟨b, off, rfl, hb, h3⟩
  · omega
  · refine .inr ⟨b, off, rfl, hb, fun i x hx => h3 i x ?_⟩
    rw [List.getElem?_take] at hx
    split at hx
    · exact hx
    · cases hx

set_option maxHeartbeats 2000000 in
set_option maxRecDepth 20000 in
theorem venueCheck_any (v : Value) (x : Ve) (w : World) (hv : IsVe w v x) :
    Calls Tryz.prog 42 #[v] w fun e w' => e = .returned (.tuple #[.int .i64 (checkV x).1, .int .i64 (checkV x).2]) ∧ Below w.heap.size w w' := by
  obtain ⟨A, c, rfl, hs, _, _, _⟩ := hv
  obtain ⟨shards, ttl, session, secs⟩ := x
  dsimp only at hs ⊢
  obtain ⟨_, _, he, hcap, hm, hs⟩ := hs.open
  injection he with e1 e2 e3
  subst e1 e3
  have hl : secs.length ≤ 9223372036854775807 := by omega
  have C1 := Lib.hid (outside_int shards 1 16)
  have C2 := Lib.hid (outside_int64 ttl 1 1000000000)
  have C3 := Lib.hid (outside_int64 session 1 1000000000)
  have hE := Lib.hid (show checkV ⟨shards, ttl, session, secs⟩ = if (outB shards 1 16 || outB ttl 1 1000000000 || outB session 1 1000000000) = true then (-1, 7) else if secs.length = 0 then (-1, 6) else if 8 < secs.length then (-1, 3) else match secsE [] secs 0 with | some (i, e) => ((i : Int), e) | none => if 4096 < sum (secs.flatMap (·.rows)) then (-1, 3) else (0, 0) from rfl)
  generalize checkV ⟨shards, ttl, session, secs⟩ = E at hE ⊢
  generalize outB shards 1 16 = b1 at C1 hE
  generalize outB ttl 1 1000000000 = b2 at C2 hE
  generalize outB session 1 1000000000 = b3 at C3 hE
  have HS := Lib.hid hs
  clear hs
  cases b1 with
  | true =>
    obtain rfl : E = (-1, 7) := by rw [hE.out]; rfl
    go_enter Tryz.func42, Tryz.ntmps42
    go_wp2_with (go_at_call 55; refine (C1.out _).mono ?_; rintro e w' ⟨rfl, rfl⟩)
    go_ret2
    exact ⟨rfl, ba _ _⟩
  | false =>
  cases b2 with
  | true =>
    obtain rfl : E = (-1, 7) := by rw [hE.out]; rfl
    go_enter Tryz.func42, Tryz.ntmps42
    go_wp2_with (first | (go_at_call 55; refine (C1.out _).mono ?_; rintro e w' ⟨rfl, rfl⟩) | (go_at_call 56; refine (C2.out _).mono ?_; rintro e w' ⟨rfl, rfl⟩))
    go_ret2
    exact ⟨rfl, ba _ _⟩
  | false =>
  cases b3 with
  | true =>
    obtain rfl : E = (-1, 7) := by rw [hE.out]; rfl
    go_enter Tryz.func42, Tryz.ntmps42
    go_wp2_with (first | (go_at_call 55; refine (C1.out _).mono ?_; rintro e w' ⟨rfl, rfl⟩) | (go_at_call 56; refine (C2.out _).mono ?_; clear C2; rintro e w' ⟨rfl, rfl⟩) | (go_at_call 56; refine (C3.out _).mono ?_; rintro e w' ⟨rfl, rfl⟩))
    go_ret2
    exact ⟨rfl, ba _ _⟩
  | false =>
  by_cases g1 : secs.length = 0
  · have g1' : ((secs.length : Int) == 0) = true := by simp [g1]
    obtain rfl : E = (-1, 6) := by rw [hE.out]; simp [g1]
    go_enter Tryz.func42, Tryz.ntmps42
    go_wp2_with (first | (go_at_call 55; refine (C1.out _).mono ?_; rintro e w' ⟨rfl, rfl⟩) | (go_at_call 56; refine (C2.out _).mono ?_; clear C2; rintro e w' ⟨rfl, rfl⟩) | (go_at_call 56; refine (C3.out _).mono ?_; rintro e w' ⟨rfl, rfl⟩))
    go_ret2
    exact ⟨rfl, ba _ _⟩
  have g1' : ((secs.length : Int) == 0) = false := by simpa using g1
  by_cases g2 : 8 < secs.length
  · have g2' : decide (8 < (secs.length : Int)) = true := by simp; omega
    obtain rfl : E = (-1, 3) := by rw [hE.out]; simp [g1, g2]
    go_enter Tryz.func42, Tryz.ntmps42
    go_wp2_with (first | (go_at_call 55; refine (C1.out _).mono ?_; rintro e w' ⟨rfl, rfl⟩) | (go_at_call 56; refine (C2.out _).mono ?_; clear C2; rintro e w' ⟨rfl, rfl⟩) | (go_at_call 56; refine (C3.out _).mono ?_; rintro e w' ⟨rfl, rfl⟩))
    go_ret2
    exact ⟨rfl, ba _ _⟩
  have g2' : decide (8 < (secs.length : Int)) = false := by simp; omega
  replace hE := Lib.hid (show E = match secsE [] secs 0 with | some (i, e) => ((i : Int), e) | none => if 4096 < sum (secs.flatMap (·.rows)) then (-1, 3) else (0, 0) by rw [hE.out, if_neg (by decide), if_neg g1, if_neg g2])
  clear g1
  go_enter Tryz.func42, Tryz.ntmps42
  go_wp2_with (first | (go_at_call 55; refine (C1.out _).mono ?_; rintro e w' ⟨rfl, rfl⟩) | (go_at_call 56; refine (C2.out _).mono ?_; clear C2; rintro e w' ⟨rfl, rfl⟩) | (go_at_call 56; refine (C3.out _).mono ?_; rintro e w' ⟨rfl, rfl⟩))
  clear e2
  have K0 := Lib.hid (Cells.new w [.int .i64 shards, .int .i64 ttl, .int .i64 session, .slice A secs.length c] 24)
  have HB0 := Lib.hid (ba w (.cells #[.int .i64 shards, .int .i64 ttl, .int .i64 session, .slice A secs.length c] 24))
  go_loopw [4, 37] (fun a i wr => ∃ k : Nat, k ≤ secs.length ∧ i = .int .i64 k ∧ a = .int .i64 (upTo secs k) ∧ Hid (Below (w.alloc (.cells #[.int .i64 shards, .int .i64 ttl, .int .i64 session, .slice A secs.length c] 24)).heap.size (w.alloc (.cells #[.int .i64 shards, .int .i64 ttl, .int .i64 session, .slice A secs.length c] 24)) wr ∧ ∀ j, (hj : j < secs.length) → j < k → secE secs[j] (secs.take j) = 0)) (fun _ i _ => secs.length - (intOf i).toNat)
  case atStart => exact ⟨0, by omega, rfl, rfl, Below.refl _ _, fun j _ h => by omega⟩
  case round =>
    obtain ⟨k, hk, rfl, rfl, hb⟩ := hrel
    have HBw := Lib.hid (HB0.out.trans (hb.out.1.mono HB0.out.size))
    have K1 := Lib.hid (K0.out.later hb.out.1)
    have hU := upTo_bd hk hb.out.2
    by_cases hlt : k < secs.length
    · obtain ⟨b, off, A', c', rfl, hbl, e0, e1, e2, hin, _, hnm⟩ := (HS.out.up HBw.out).atS hlt
      have hfirst := Lib.hid (sl_first HS.out (j := k) (by omega) (by omega))
      have hk0 : (0 : Int) ≤ (k : Int) := by omega
      have hk1 : (k : Int) < (secs.length : Int) := by omega
      have hIN := Lib.hid hin
      clear hin
      go_wp2_with fail
      refine at_world (fun W => Below wr.heap.size wr W ∧ Cells W w.heap.size [.int .i64 shards, .int .i64 ttl, .int .i64 session, .slice (some ⟨b, off, none⟩) secs.length c] ∧ Cells W wr.heap.size [.string secs[k].name, .slice A' secs[k].rows.length c', .int .i64 secs[k].queue])
        ⟨ba _ _, K1.out.alloc _, Cells.new _ _ _⟩ fun W1 ⟨hb1, k1, n1⟩ => ?_
      have HB1 := Lib.hid (HBw.out.trans (hb1.mono HBw.out.size))
      have D1 := Lib.hid hb1
      have f0 := gro_cell (k1.c 3 _ rfl)
      have f1 := gro_cell (n1.c 0 _ rfl)
      have f2 := gro_cell (n1.c 1 _ rfl)
      have f3 := gro_cell (n1.c 2 _ rfl)
      have N1 := Lib.hid n1
      have hk2 : (k : Int) ≤ (secs.length : Int) := by omega
      have hk3 : (k : Int) ≤ (c : Int) := by omega
      obtain ⟨_, _, he, _, hrm, _⟩ := hIN.out.open
      injection he with he1 _ he3
      subst he1 he3
      have C := Lib.hid (fun W (hb : Below W1.heap.size W1 W) => check_any secs[k] A' c' (.slice (some ⟨b, off, none⟩) k c) (secs.take k) W (hIN.out.up (D1.out.trans (hb.mono D1.out.size)))
        (hfirst.out.up (HB1.out.trans (hb.mono HB1.out.size))) hnm (by omega))
      have hq := Lib.hid (show ∀ e, secE secs[k] (secs.take k) = e → e = secE secs[k] (secs.take k) from fun _ h => h.symm)
      generalize hee : secE secs[k] (secs.take k) = ee at C
      have HEE := Lib.hid hee
      clear hb1 k1 n1 e0 e1 e2 hee hq
      refine wp_region_gro (by kernel_rfl) (by kernel_rfl) ?_
      repeat (go_big_quiet_step (first | (go_at_call 57; exact Calls.gro_of (C.out _ (gro_below _ _))) | fail))
      refine wpQuiet_nil ?_
      rintro _ ⟨p, rfl⟩
      have hg := gro_below W1 p
      have D2 := Lib.hid (D1.out.trans (hg.mono D1.out.size))
      have HB2 := Lib.hid (HB1.out.trans (hg.mono HB1.out.size))
      have N2 := Lib.hid (N1.out.later hg)
      clear f0 f1 f2 f3 hg
      generalize gro W1 p = W2 at D2 HB2 N2 ⊢
      by_cases he : ee = 0
      · have t0 : (ee != 0) = false := by simp [he]
        have n1 := N2.out.c 1 _ rfl
        have hsec := secE_ok (HEE.out.trans he)
        have HSEC := Lib.hid hsec
        have hrl : secs[k].rows.length ≤ 16 := hsec.1
        clear hsec
        go_wp2_with fail
        clear n1
        go_loopw [4, 55] (fun v i wi => ∃ (j : Nat) (a : Int), j ≤ secs[k].rows.length ∧ i = .int .i64 j ∧ v = .int .i64 a ∧ Hid (a = upTo secs k + sum (secs[k].rows.take j)) ∧ wi = W2 ∧ 0 ≤ a ∧ a ≤ 10240) (fun _ i _ => secs[k].rows.length - (intOf i).toNat)
        case atStart => exact ⟨0, upTo secs k, by omega, rfl, rfl, Lib.hid (by simp [sum]), rfl, hU.1, by omega⟩
        case round =>
          obtain ⟨j, a, hj, rfl, rfl, ha, rfl, ha0, ha1⟩ := hrel
          by_cases hjt : j < secs[k].rows.length
          · obtain ⟨b2, off2, rfl, hb2, e2, _⟩ := (hIN.out.up D2.out).atI hjt
            have hn := HSEC.out.2.1 _ (List.getElem_mem hjt)
            have hj0 : (0 : Int) ≤ (j : Int) := by omega
            have hj1 : (j : Int) < (secs[k].rows.length : Int) := by omega
            have hsn := Lib.hid (show sum (secs[k].rows.take (j + 1)) = sum (secs[k].rows.take j) + secs[k].rows[j] by rw [List.take_succ_eq_append_getElem hjt, sum_snoc])
            have hbd := sum_bd (m := 64) (by decide) (l := secs[k].rows.take j) fun n hn => by have := HSEC.out.2.1 n (List.mem_of_mem_take hn); omega
            have hlen : ((secs[k].rows.take j).length : Int) ≤ 16 := by simp; omega
            have ha2 : a ≤ 9216 := by have := ha.out; omega
            clear hbd hlen
            generalize hr : secs[k].rows[j] = r at e2 hn hsn
            clear hr
            go_wp2_with fail
            go_roundw
            case rel => exact ⟨j + 1, a + r, by omega, by go_num, by go_num, Lib.hid (by rw [hsn.out, ha.out]; omega), trivial, by omega, by omega⟩
            case measure => simp [intOf]; omega
          · have hend := Lib.hid (show a = upTo secs (k + 1) by rw [upTo_succ hlt, ha.out, List.take_of_length_le (by omega)])
            go_wp2_with fail
            go_roundw
            case rel => exact ⟨k + 1, by omega, by go_num, by rw [hend.out], hb.out.1.trans (D2.out.mono hb.out.1.size), fun j' hj' hlt' => by
              by_cases e : j' = k
              · subst e; exact HEE.out.trans he
              · exact hb.out.2 j' hj' (by omega)⟩
            case measure => simp [intOf]; omega
      · have t0 : (ee != 0) = true := by simpa using he
        obtain rfl : E = ((k : Int), ee) := by
          rw [hE.out, secsE_some hlt (fun j hj => by simpa using hb.out.2 j (by omega) hj) (by simpa [HEE.out] using he)]
          simp [HEE.out]
        go_wp2_with fail
        go_ret2
        exact ⟨rfl, HB2.out⟩
    · obtain rfl : k = secs.length := by omega
      have hEn := Lib.hid (show E = if 4096 < upTo secs secs.length then (-1, 3) else (0, 0) by
        rw [hE.out, secsE_none fun j hj => by simpa using hb.out.2 j hj (by omega), upTo, List.take_length])
      by_cases h4 : 4096 < upTo secs secs.length
      · obtain rfl : E = (-1, 3) := by rw [hEn.out, if_pos h4]
        go_wp2_with fail
        go_ret2
        exact ⟨rfl, HBw.out⟩
      · obtain rfl : E = (0, 0) := by rw [hEn.out, if_neg h4]
        go_wp2_with fail
        go_ret2
        exact ⟨rfl, HBw.out⟩
end Go.Proofs.YtcomfhigbjkoeaaGreatDoor
