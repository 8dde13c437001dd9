/-
  Walks of groundlingref23.Count, Tickets, Of and of model.Count, Tickets, Of: all by one reading. Conditions: as each theorem says.
-/
import Derived.Test.YtinbjfkkpcpokaaGreatDoorRcA
import Derived.Test.YtinbjfkkpcpokaaGreatDoorLmI
import Derived.BigQuiet
namespace Go.Proofs.YtinbjfkkpcpokaaGreatDoor
open Go.RowKit

/-- How many seats are in a state. -/
def cntL (l : List Sx) (t : Int) : Int := ((l.countP (fun x => x.state == t) : Nat) : Int)
def waitL (l : List (List Int)) : Int := (((l.map List.length).sum : Nat) : Int)
theorem cntL_succ (l : List Sx) {i : Nat} (hi : i < l.length) (t : Int) : cntL (l.take (i + 1)) t = cntL (l.take i) t + if l[i].state = t then 1 else 0 := by
  unfold cntL
  rw [List.take_succ_eq_append_getElem hi, List.countP_append]
  by_cases h : l[i].state = t
  · simp [h]
  · simp [h]
theorem cntL_bd (l : List Sx) (t : Int) : 0 ≤ cntL l t ∧ cntL l t ≤ l.length := by
  unfold cntL
  have := List.countP_le_length (p := fun x : Sx => x.state == t) (l := l)
  omega
theorem waitL_succ (l : List (List Int)) {i : Nat} (hi : i < l.length) : waitL (l.take (i + 1)) = waitL (l.take i) + l[i].length := by
  unfold waitL
  rw [List.take_succ_eq_append_getElem hi, List.map_append, List.sum_append]
  simp
theorem waitL_bd {l : List (List Int)} (h : ∀ x ∈ l, x.length ≤ 64) : 0 ≤ waitL l ∧ waitL l ≤ 64 * l.length := by
  unfold waitL
  refine ⟨by omega, ?_⟩
  induction l with
  | nil => simp
  | cons x l ih =>
    have h1 := h x (by simp)
    have h2 := ih fun y hy => h y (by simp [hy])
    simp only [List.map_cons, List.sum_cons, List.length_cons]
    omega
def countM (s : Md) : Int × Int × Int × Int × Int := if checkM s ≠ 0 then (0, 0, 0, 0, checkM s) else (cntL s.seats 0, cntL s.seats 1, cntL s.seats 2, waitL s.qs, 0)
theorem sx_states {x : Sx} (h : sxCheck x = 0) : x.state = 0 ∨ x.state = 1 ∨ x.state = 2 := by
  unfold sxCheck at h
  split at h
  · rename_i h1; exact .inr (.inl h1)
  split at h
  · rename_i h1; exact .inl h1
  split at h
  · rename_i h1; exact .inr (.inr h1)
  · exact absurd h (by decide)

/-- What is selected of the seats, one after the other. -/
def selF {α : Type} (f : Sx → Nat → List α) : List Sx → Nat → List α
  | [], _ => []
  | x :: l, i => f x i ++ selF f l (i + 1)
theorem selF_append {α : Type} (f : Sx → Nat → List α) : ∀ (a b : List Sx) (i : Nat), selF f (a ++ b) i = selF f a i ++ selF f b (i + a.length)
  | [], b, i => by simp [selF]
  | x :: a, b, i => by
    simp only [List.cons_append, selF, selF_append f a b (i + 1), List.length_cons, List.append_assoc]
    congr 3
    omega
theorem selF_succ {α : Type} (f : Sx → Nat → List α) (l : List Sx) {i : Nat} (hi : i < l.length) : selF f (l.take (i + 1)) 0 = selF f (l.take i) 0 ++ f l[i] i := by
  rw [List.take_succ_eq_append_getElem hi, selF_append]
  simp [selF, Nat.min_eq_left (Nat.le_of_lt hi)]
theorem selF_len {α : Type} {f : Sx → Nat → List α} (h : ∀ x i, (f x i).length ≤ 1) : ∀ (l : List Sx) (i : Nat), (selF f l i).length ≤ l.length
  | [], _ => by simp [selF]
  | x :: l, i => by
    have := selF_len h l (i + 1)
    have := h x i
    simp only [selF, List.length_append, List.length_cons]
    omega
def tickF (x : Sx) (i : Nat) : List Tk := if (sxTicket x (i : Int)).2 = 0 then [(sxTicket x (i : Int)).1] else []
def ofF (owner : Int) (x : Sx) (i : Nat) : List Int := if x.state ≠ 0 ∧ x.owner = owner then [(i : Int)] else []
theorem tickF_len (x : Sx) (i : Nat) : (tickF x i).length ≤ 1 := by unfold tickF; split <;> simp
theorem ofF_len (o : Int) (x : Sx) (i : Nat) : (ofF o x i).length ≤ 1 := by unfold ofF; split <;> simp
def ticksM (s : Md) : List Tk × Int := if checkM s ≠ 0 then ([], checkM s) else (selF tickF s.seats 0, 0)
def ofM (s : Md) (owner : Int) : List Int × Int := if checkM s ≠ 0 then ([], checkM s) else (selF (ofF owner) s.seats 0, 0)

set_option maxHeartbeats 4000000 in
set_option maxRecDepth 20000 in
theorem rCount_any (F : MFrm) (s : Md) (w : World) (hs : IsMd w F s) (hn : s.qs.length ≤ 1000 ∧ ∀ l, l ∈ s.qs → l.length ≤ 1000) :
    Calls Tryz.prog 15 #[mdV F s] w fun e w' => e = .returned (.tuple #[.int .i64 (countM s).1, .int .i64 (countM s).2.1, .int .i64 (countM s).2.2.1, .int .i64 (countM s).2.2.2.1, .int .i64 (countM s).2.2.2.2]) ∧ Below w.heap.size w w' := by
  have C1 := Lib.hid (fun W (hb : Below w.heap.size w W) => rcheck23_any F s W (hs.up hb) hn)
  have HS := Lib.hid hs
  have HOK := Lib.hid (@checkM_ok s)
  have hT := Lib.hid (show countM s = if checkM s ≠ 0 then (0, 0, 0, 0, checkM s) else (cntL s.seats 0, cntL s.seats 1, cntL s.seats 2, waitL s.qs, 0) from rfl)
  have hcapS := hs.seats.capB
  generalize checkM s = E at C1 HOK hT
  clear hs hn
  have S7 := Lib.hid (show (Tryz.prog.info? 29).map (·.size) = some (mdCells F s).length by kernel_rfl)
  have MVk := Lib.hid (show mdV F s = .agg (mdCells F s).toArray from rfl)
  rw [MVk.out] at C1 ⊢
  obtain ⟨ms, hms⟩ : ∃ ms : List Value, ms = mdCells F s := ⟨_, rfl⟩
  rw [← hms] at C1 S7 ⊢
  have HMS := Lib.hid hms
  clear hms MVk
  generalize countM s = M at hT ⊢
  go_enter Tryz.func15, Tryz.ntmps15
  go_upto_region 1 with fail
  obtain ⟨q, hq⟩ : ∃ q, w.heap.size = q := ⟨_, rfl⟩
  rw [hq]
  refine at_world (fun X => Below w.heap.size w X ∧ BoxN X q 29 ms.toArray) ⟨ba _ _, hq ▸ BoxN.new w 29 ms.toArray⟩ fun w0 hw0 => ?_
  have B0 := Lib.hid hw0.1
  have K0 := Lib.hid hw0.2
  clear hw0
  go_wp2_with (refine wpList_load_mid rfl 29 (.tmp 1) rfl q 0 rfl ms _ K0.out.range2 Tryz.underlying29 rfl S7.out ?_)
  refine (C1.out _ B0.out).mono ?_
  rintro e w1 ⟨rfl, hb⟩
  have B1 := Lib.hid (B0.out.trans (hb.mono B0.out.size))
  have K1 := Lib.hid (K0.out.later hb)
  clear hb K0 B0 C1
  by_cases h : E = 0
  case neg =>
    obtain rfl : M = (0, 0, 0, 0, E) := by rw [hT.out, if_pos h]
    have t : (E != 0) = true := by simpa using h
    clear h hT
    go_wp2_with fail
    exact bodyPost_ret (v := .tuple #[.int .i64 0, .int .i64 0, .int .i64 0, .int .i64 0, .int .i64 E]) (by simp [results, Tryz.results15, go_sem]) rfl ⟨rfl, by rw [← hq]; exact B1.out⟩
  have OK := Lib.hid (HOK.out.1 h)
  obtain rfl : M = (cntL s.seats 0, cntL s.seats 1, cntL s.seats 2, waitL s.qs, 0) := by rw [hT.out, if_neg (by simpa using h)]
  subst h
  clear hT HOK
  have HLN := Lib.hid OK.out.len
  have hln := HLN.out
  go_upto_region 5 with fail
  obtain ⟨q8, hq8⟩ : ∃ q8, w1.heap.size = q8 := ⟨_, rfl⟩
  rw [hq8]
  refine at_world (fun X => Below w1.heap.size w1 X ∧ BoxN X q8 81 #[.int .i64 0, .int .i64 0, .int .i64 0]) ⟨ba _ _, hq8 ▸ BoxN.new w1 81 _⟩ fun w2 hw2 => ?_
  have B2 := Lib.hid (B1.out.trans (hw2.1.mono B1.out.size))
  have K2 := Lib.hid (K1.out.later hw2.1)
  have L2 := Lib.hid hw2.2
  have hqq : q < q8 := by have := K1.out.lt; omega
  have hwq : w.heap.size ≤ q8 := by have := B1.out.size; omega
  clear hw2 K1 B1 hq8
  go_wp2_with fail
  go_loopw [9] (fun iv wr => ∃ i : Nat, i ≤ s.seats.length ∧ iv = .int .i64 (i : Int) ∧ Hid (Below w.heap.size w wr) ∧ Hid (BoxN wr q 29 ms.toArray) ∧ Hid (BoxN wr q8 81 #[.int .i64 (cntL (s.seats.take i) 0), .int .i64 (cntL (s.seats.take i) 1), .int .i64 (cntL (s.seats.take i) 2)])) (fun iv _ => s.seats.length - (intOf iv).toNat)
  case atStart => exact ⟨0, by omega, rfl, B2, K2, Lib.hid (by simpa [cntL] using L2.out)⟩
  case round =>
    obtain ⟨i, hi, rfl, HB, HK, HA⟩ := hrel
    rename World => wr
    have m5 := (show BoxN wr q 29 (mdCells F s).toArray from HMS.out ▸ HK.out).cell 5 (.slice F.A s.seats.length F.ac) rfl
    have zq := HK.out.lt
    have a0 := HA.out.cell 0 _ rfl
    have a1 := HA.out.cell 1 _ rfl
    have a2 := HA.out.cell 2 _ rfl
    have f0 := HA.out.frozen 0
    have f1 := HA.out.frozen 1
    have f2 := HA.out.frozen 2
    have z8 := HA.out.lt
    by_cases hlt : i < s.seats.length
    case pos =>
      have t0 : decide ((i : Int) < (s.seats.length : Int)) = true := decide_eq_true (by omega)
      have hk0 : (0 : Int) ≤ (i : Int) := by omega
      have hk1 : (i : Int) < (s.seats.length : Int) := by omega
      obtain ⟨bS, oS, hA, hbS, d0, _⟩ := (HS.out.seats.up HB.out).atX hlt
      rw [hA] at m5
      have n0 := cntL_succ s.seats hlt 0
      have n1 := cntL_succ s.seats hlt 1
      have n2 := cntL_succ s.seats hlt 2
      have hb0 := cntL_bd (s.seats.take i) 0
      have hb1 := cntL_bd (s.seats.take i) 1
      have hb2 := cntL_bd (s.seats.take i) 2
      have hst := sx_states (OK.out.each _ (List.getElem_mem hlt))
      rw [List.length_take, Nat.min_eq_left (by omega)] at hb0 hb1 hb2
      have N0 := Lib.hid n0
      have N1 := Lib.hid n1
      have N2 := Lib.hid n2
      clear n0 n1 n2 hA
      generalize cntL (s.seats.take i) 0 = c0 at *
      generalize cntL (s.seats.take i) 1 = c1 at *
      generalize cntL (s.seats.take i) 2 = c2 at *
      generalize s.seats[i].state = st at *
      have w0' : IntKind.i64.wrap (c0 + 1) = c0 + 1 := IntWalk.i64_in _ (by omega)
      have w1' : IntKind.i64.wrap (c1 + 1) = c1 + 1 := IntWalk.i64_in _ (by omega)
      have w2' : IntKind.i64.wrap (c2 + 1) = c2 + 1 := IntWalk.i64_in _ (by omega)
      rcases hst with rfl | rfl | rfl
      · go_wp2_with fail
        have hbx := HA.out.set 0 (.int .i64 (c0 + 1))
        refine ⟨⟨i + 1, by omega, by go_num, Lib.hid (HB.out.setCell (p := ⟨q8, 0, none⟩) (by dsimp only; omega) _), Lib.hid (HK.out.other (by omega) _), Lib.hid ?_⟩, by simp [intOf]; omega⟩
        rw [N0.out, N1.out, N2.out]
        simpa using hbx
      · go_wp2_with fail
        have hbx := HA.out.set 1 (.int .i64 (c1 + 1))
        refine ⟨⟨i + 1, by omega, by go_num, Lib.hid (HB.out.setCell (p := ⟨q8, 1, none⟩) (by dsimp only; omega) _), Lib.hid (HK.out.other (by omega) _), Lib.hid ?_⟩, by simp [intOf]; omega⟩
        rw [N0.out, N1.out, N2.out]
        simpa using hbx
      · go_wp2_with fail
        have hbx := HA.out.set 2 (.int .i64 (c2 + 1))
        refine ⟨⟨i + 1, by omega, by go_num, Lib.hid (HB.out.setCell (p := ⟨q8, 2, none⟩) (by dsimp only; omega) _), Lib.hid (HK.out.other (by omega) _), Lib.hid ?_⟩, by simp [intOf]; omega⟩
        rw [N0.out, N1.out, N2.out]
        simpa using hbx
    obtain rfl : i = s.seats.length := by omega
    rw [List.take_length] at a0 a1 a2 HA
    have t0 : decide ((s.seats.length : Int) < (s.seats.length : Int)) = false := by simp
    go_wp2_with fail
    clear a0 a1 a2 f0 f1 f2 m5 zq z8 t0
    have HQB := Lib.hid (fun k => waitL_bd (l := s.qs.take k) fun x hx => OK.out.qlen x (List.mem_of_mem_take hx))
    have hnq := OK.out.nqs
    go_loopw [10, 11] (fun wv iv wx => ∃ k : Nat, k ≤ s.qs.length ∧ iv = .int .i64 (k : Int) ∧ wv = .int .i64 (waitL (s.qs.take k)) ∧ Hid (Below wr.heap.size wr wx)) (fun _ iv _ => s.qs.length - (intOf iv).toNat)
    case atStart => exact ⟨0, by omega, rfl, by simp [waitL], Lib.hid (Below.refl _ _)⟩
    case round =>
      obtain ⟨k, hk, rfl, rfl, HX⟩ := hrel
      rename World => wx
      have BX := Lib.hid (HB.out.trans (HX.out.mono HB.out.size))
      have m6 := (show BoxN wx q 29 (mdCells F s).toArray from HMS.out ▸ HK.out.later HX.out).cell 6 (.slice F.Q s.qs.length F.qc) rfl
      have zq := (HK.out.later HX.out).lt
      by_cases hkl : k < s.qs.length
      case pos =>
        have t0 : decide ((k : Int) < (s.qs.length : Int)) = true := decide_eq_true (by omega)
        have hk0 : (0 : Int) ≤ (k : Int) := by omega
        have hk1 : (k : Int) < (s.qs.length : Int) := by omega
        obtain ⟨bQ, oQ, A0, ac0, hQ, hbQ, e0, _⟩ := (HS.out.qs.up BX.out).atQ hkl
        rw [hQ] at m6
        have NW := Lib.hid (waitL_succ s.qs hkl)
        have hw := HQB.out k
        have hlq := OK.out.qlen _ (List.getElem_mem hkl)
        rw [List.length_take, Nat.min_eq_left (by omega)] at hw
        clear hQ
        generalize waitL (s.qs.take k) = wt at *
        generalize s.qs[k].length = ql at *
        have wW : IntKind.i64.wrap (wt + (ql : Int)) = wt + (ql : Int) := IntWalk.i64_in _ (by omega)
        go_wp2_with fail
        exact ⟨⟨k + 1, by omega, by go_num, by rw [NW.out], HX⟩, by simp [intOf]; omega⟩
      obtain rfl : k = s.qs.length := by omega
      rw [List.take_length]
      have t0 : decide ((s.qs.length : Int) < (s.qs.length : Int)) = false := by simp
      have hA := HA.out.later HX.out
      have a0 := hA.cell 0 _ rfl
      have a1 := hA.cell 1 _ rfl
      have a2 := hA.cell 2 _ rfl
      have z8 := hA.lt
      clear hA
      go_upto_region 14 with fail
      go_quiet (fail)
      go_wp2_with fail
      exact bodyPost_ret (v := .tuple #[.int .i64 (cntL s.seats 0), .int .i64 (cntL s.seats 1), .int .i64 (cntL s.seats 2), .int .i64 (waitL s.qs), .int .i64 0]) (by simp [results, Tryz.results15, go_sem]) rfl ⟨rfl, by rw [← hq]; exact bdN BX.out _⟩

set_option maxHeartbeats 4000000 in
set_option maxRecDepth 20000 in
theorem mCount_any (F : MFrm) (s : Md) (w : World) (hs : IsMd w F s) (hn : s.qs.length ≤ 1000 ∧ ∀ l, l ∈ s.qs → l.length ≤ 1000) :
    Calls Tryz.prog 14 #[mdV F s] w fun e w' => e = .returned (.tuple #[.int .i64 (countM s).1, .int .i64 (countM s).2.1, .int .i64 (countM s).2.2.1, .int .i64 (countM s).2.2.2.1, .int .i64 (countM s).2.2.2.2]) ∧ Below w.heap.size w w' := by
  have C1 := Lib.hid (fun W (hb : Below w.heap.size w W) => mcheck_any F s W (hs.up hb) hn)
  have HS := Lib.hid hs
  have HOK := Lib.hid (@checkM_ok s)
  have hT := Lib.hid (show countM s = if checkM s ≠ 0 then (0, 0, 0, 0, checkM s) else (cntL s.seats 0, cntL s.seats 1, cntL s.seats 2, waitL s.qs, 0) from rfl)
  have hcapS := hs.seats.capB
  generalize checkM s = E at C1 HOK hT
  clear hs hn
  have S7 := Lib.hid (show (Tryz.prog.info? 29).map (·.size) = some (mdCells F s).length by kernel_rfl)
  have MVk := Lib.hid (show mdV F s = .agg (mdCells F s).toArray from rfl)
  rw [MVk.out] at C1 ⊢
  obtain ⟨ms, hms⟩ : ∃ ms : List Value, ms = mdCells F s := ⟨_, rfl⟩
  rw [← hms] at C1 S7 ⊢
  have HMS := Lib.hid hms
  clear hms MVk
  generalize countM s = M at hT ⊢
  go_enter Tryz.func14, Tryz.ntmps14
  go_upto_region 1 with fail
  obtain ⟨q, hq⟩ : ∃ q, w.heap.size = q := ⟨_, rfl⟩
  rw [hq]
  have b0 := (((BoxN.new w 29 ms.toArray).alloc (.cells #[.int .i64 0] 3)).alloc (.cells #[.int .i64 0] 3)).alloc (.cells #[.int .i64 0] 3)
  have b1 := ((BoxN.new (w.alloc (.cells ms.toArray 29)) 3 #[.int .i64 0]).alloc (.cells #[.int .i64 0] 3)).alloc (.cells #[.int .i64 0] 3)
  have b2 := (BoxN.new ((w.alloc (.cells ms.toArray 29)).alloc (.cells #[.int .i64 0] 3)) 3 #[.int .i64 0]).alloc (.cells #[.int .i64 0] 3)
  have b3 := BoxN.new (((w.alloc (.cells ms.toArray 29)).alloc (.cells #[.int .i64 0] 3)).alloc (.cells #[.int .i64 0] 3)) 3 #[.int .i64 0]
  simp only [World.size_alloc, hq] at b0 b1 b2 b3
  refine at_world (fun X => Below w.heap.size w X ∧ BoxN X q 29 ms.toArray ∧ BoxN X (q + 1) 3 #[.int .i64 0] ∧ BoxN X (q + 1 + 1) 3 #[.int .i64 0] ∧ BoxN X (q + 1 + 1 + 1) 3 #[.int .i64 0]) ⟨bal (bal (bal (ba _ _))), b0, b1, b2, b3⟩ fun w0 hw0 => ?_
  have B0 := Lib.hid hw0.1
  have K0 := Lib.hid hw0.2.1
  have L10 := Lib.hid hw0.2.2.1
  have L20 := Lib.hid hw0.2.2.2.1
  have L30 := Lib.hid hw0.2.2.2.2
  clear hw0 b0 b1 b2 b3
  go_wp2_with (refine wpList_load_mid rfl 29 (.tmp 1) rfl q 0 rfl ms _ K0.out.range2 Tryz.underlying29 rfl S7.out ?_)
  refine (C1.out _ B0.out).mono ?_
  rintro e w1 ⟨rfl, hb⟩
  have B1 := Lib.hid (B0.out.trans (hb.mono B0.out.size))
  have K1 := Lib.hid (K0.out.later hb)
  have L11 := Lib.hid (L10.out.later hb)
  have L21 := Lib.hid (L20.out.later hb)
  have L31 := Lib.hid (L30.out.later hb)
  clear hb K0 B0 C1 L10 L20 L30
  have hwq : w.heap.size = q := hq
  have l1 := L11.out.cell 0 (.int .i64 0) rfl
  have f1 := L11.out.frozen 0
  have y1 := L11.out.lt
  have l2 := L21.out.cell 0 (.int .i64 0) rfl
  have f2 := L21.out.frozen 0
  have y2 := L21.out.lt
  have l3 := L31.out.cell 0 (.int .i64 0) rfl
  have f3 := L31.out.frozen 0
  have y3 := L31.out.lt
  by_cases h : E = 0
  case neg =>
    obtain rfl : M = (0, 0, 0, 0, E) := by rw [hT.out, if_pos h]
    have t : (E != 0) = true := by simpa using h
    clear h hT
    go_wp2_with fail
    have b1 := (((L11.out.set 0 (.int .i64 0)).other (B' := q + 1 + 1) (i := 0) (by omega) (.int .i64 0)).other (B' := q + 1 + 1 + 1) (i := 0) (by omega) (.int .i64 0))
    have g1 := b1.cell 0 (.int .i64 0) rfl
    have b2 := (((L21.out.other (B' := q + 1) (i := 0) (by omega) (.int .i64 0)).set 0 (.int .i64 0)).other (B' := q + 1 + 1 + 1) (i := 0) (by omega) (.int .i64 0))
    have g2 := b2.cell 0 (.int .i64 0) rfl
    have b3 := (((L31.out.other (B' := q + 1) (i := 0) (by omega) (.int .i64 0)).other (B' := q + 1 + 1) (i := 0) (by omega) (.int .i64 0)).set 0 (.int .i64 0))
    have g3 := b3.cell 0 (.int .i64 0) rfl
    have hB := (((B1.out.setCell (p := ⟨q + 1, 0, none⟩) (by dsimp only; omega) (.int .i64 0)).setCell (p := ⟨q + 1 + 1, 0, none⟩) (by dsimp only; omega) (.int .i64 0)).setCell (p := ⟨q + 1 + 1 + 1, 0, none⟩) (by dsimp only; omega) (.int .i64 0))
    rw [hwq] at hB
    exact bodyPost_ret (v := .tuple #[.int .i64 0, .int .i64 0, .int .i64 0, .int .i64 0, .int .i64 E]) (by simp [results, Tryz.results14, go_sem, g1, g2, g3]) rfl ⟨rfl, hB⟩
  have OK := Lib.hid (HOK.out.1 h)
  obtain rfl : M = (cntL s.seats 0, cntL s.seats 1, cntL s.seats 2, waitL s.qs, 0) := by rw [hT.out, if_neg (by simpa using h)]
  subst h
  clear hT HOK
  have HLN := Lib.hid OK.out.len
  have hln := HLN.out
  clear l1 l2 l3 f1 f2 f3
  go_upto_region 5 with fail
  obtain ⟨q8, hq8⟩ : ∃ q8, w1.heap.size = q8 := ⟨_, rfl⟩
  rw [hq8]
  refine at_world (fun X => Below w1.heap.size w1 X ∧ BoxN X q8 80 #[.pointer (some ⟨q + 1, 0, none⟩), .pointer (some ⟨q + 1 + 1, 0, none⟩), .pointer (some ⟨q + 1 + 1 + 1, 0, none⟩)]) ⟨ba _ _, hq8 ▸ BoxN.new w1 80 _⟩ fun w2 hw2 => ?_
  have B2 := Lib.hid (B1.out.trans (hw2.1.mono B1.out.size))
  have K2 := Lib.hid (K1.out.later hw2.1)
  have P2 := Lib.hid hw2.2
  have L12 := Lib.hid (L11.out.later hw2.1)
  have L22 := Lib.hid (L21.out.later hw2.1)
  have L32 := Lib.hid (L31.out.later hw2.1)
  have hqq : q + 1 + 1 + 1 < q8 := by have := L31.out.lt; omega
  clear hw2 K1 B1 hq8 L11 L21 L31 y1 y2 y3
  have m5 := (show BoxN w2 q 29 (mdCells F s).toArray from HMS.out ▸ K2.out).cell 5 (.slice F.A s.seats.length F.ac) rfl
  have zq := K2.out.lt
  go_wp2_with fail
  clear m5 zq
  go_loopw [22] (fun iv wr => ∃ i : Nat, i ≤ s.seats.length ∧ iv = .int .i64 (i : Int) ∧ Hid (Below w.heap.size w wr) ∧ Hid (BoxN wr q 29 ms.toArray) ∧ Hid (BoxN wr q8 80 #[.pointer (some ⟨q + 1, 0, none⟩), .pointer (some ⟨q + 1 + 1, 0, none⟩), .pointer (some ⟨q + 1 + 1 + 1, 0, none⟩)]) ∧ Hid (BoxN wr (q + 1) 3 #[.int .i64 (cntL (s.seats.take i) 0)]) ∧ Hid (BoxN wr (q + 1 + 1) 3 #[.int .i64 (cntL (s.seats.take i) 1)]) ∧ Hid (BoxN wr (q + 1 + 1 + 1) 3 #[.int .i64 (cntL (s.seats.take i) 2)])) (fun iv _ => s.seats.length - (intOf iv).toNat)
  case atStart => exact ⟨0, by omega, rfl, B2, K2, P2, Lib.hid (by simpa [cntL] using L12.out), Lib.hid (by simpa [cntL] using L22.out), Lib.hid (by simpa [cntL] using L32.out)⟩
  case round =>
    obtain ⟨i, hi, rfl, HB, HK, HP, L1r, L2r, L3r⟩ := hrel
    rename World => wr
    by_cases hlt : i < s.seats.length
    case pos =>
      have t0 : decide ((i : Int) < (s.seats.length : Int)) = true := decide_eq_true (by omega)
      have hk0 : (0 : Int) ≤ (i : Int) := by omega
      have hk1 : (i : Int) < (s.seats.length : Int) := by omega
      obtain ⟨bS, oS, hA, hbS, d0, d1, d2, d3, d4, _⟩ := (HS.out.seats.up HB.out).atX hlt
      have n0 := cntL_succ s.seats hlt 0
      have n1 := cntL_succ s.seats hlt 1
      have n2 := cntL_succ s.seats hlt 2
      have hb0 := cntL_bd (s.seats.take i) 0
      have hb1 := cntL_bd (s.seats.take i) 1
      have hb2 := cntL_bd (s.seats.take i) 2
      have hst := sx_states (OK.out.each _ (List.getElem_mem hlt))
      rw [List.length_take, Nat.min_eq_left (by omega)] at hb0 hb1 hb2
      have N0 := Lib.hid n0
      have N1 := Lib.hid n1
      have N2 := Lib.hid n2
      clear n0 n1 n2
      rw [hA]
      clear hA
      generalize cntL (s.seats.take i) 0 = c0 at *
      generalize cntL (s.seats.take i) 1 = c1 at *
      generalize cntL (s.seats.take i) 2 = c2 at *
      generalize s.seats[i] = sx at *
      have w0' : IntKind.i64.wrap (c0 + 1) = c0 + 1 := IntWalk.i64_in _ (by omega)
      have w1' : IntKind.i64.wrap (c1 + 1) = c1 + 1 := IntWalk.i64_in _ (by omega)
      have w2' : IntKind.i64.wrap (c2 + 1) = c2 + 1 := IntWalk.i64_in _ (by omega)
      go_upto_region 8 with fail
      obtain ⟨qx, hqx⟩ : ∃ qx, wr.heap.size = qx := ⟨_, rfl⟩
      rw [hqx]
      refine at_world (fun X => Below wr.heap.size wr X ∧ BoxN X qx 52 #[.int .i64 sx.state, .int .u32 sx.owner, .int .i64 sx.till, .int .u64 sx.serial, .int .u64 sx.epoch]) ⟨ba _ _, hqx ▸ BoxN.new wr 52 _⟩ fun wx hwx => ?_
      have BX := Lib.hid (HB.out.trans (hwx.1.mono HB.out.size))
      have KX := Lib.hid (HK.out.later hwx.1)
      have PX := Lib.hid (HP.out.later hwx.1)
      have L1x := Lib.hid (L1r.out.later hwx.1)
      have L2x := Lib.hid (L2r.out.later hwx.1)
      have L3x := Lib.hid (L3r.out.later hwx.1)
      have s0 := hwx.2.cell 0 _ rfl
      have zx := hwx.2.lt
      have p0 := PX.out.cell 0 _ rfl
      have p1 := PX.out.cell 1 _ rfl
      have p2 := PX.out.cell 2 _ rfl
      have zp := PX.out.lt
      have hwqx : w.heap.size ≤ q := by omega
      clear hwx hqx HB HK HP L1r L2r L3r d0 d1 d2 d3 d4 hbS
      have l1 := L1x.out.cell 0 (.int .i64 c0) rfl
      have f1 := L1x.out.frozen 0
      have y1 := L1x.out.lt
      have l2 := L2x.out.cell 0 (.int .i64 c1) rfl
      have f2 := L2x.out.frozen 0
      have y2 := L2x.out.lt
      have l3 := L3x.out.cell 0 (.int .i64 c2) rfl
      have f3 := L3x.out.frozen 0
      have y3 := L3x.out.lt
      generalize sx.state = st at *
      rcases hst with rfl | rfl | rfl
      · go_wp2_with fail
        have h0 := L1x.out.set 0 (.int .i64 (c0 + 1))
        have h1 := L2x.out.other (B' := q + 1) (i := 0) (by omega) (.int .i64 (c0 + 1))
        have h2 := L3x.out.other (B' := q + 1) (i := 0) (by omega) (.int .i64 (c0 + 1))
        refine ⟨⟨i + 1, by omega, by go_num, Lib.hid (BX.out.setCell (p := ⟨q + 1, 0, none⟩) (by dsimp only; omega) _), Lib.hid (KX.out.other (by omega) _), Lib.hid (PX.out.other (by omega) _), Lib.hid ?_, Lib.hid ?_, Lib.hid ?_⟩, by simp [intOf]; omega⟩
        · rw [N0.out]; simpa using h0
        · rw [N1.out]; simpa using h1
        · rw [N2.out]; simpa using h2
      · go_wp2_with fail
        have h1 := L2x.out.set 0 (.int .i64 (c1 + 1))
        have h0 := L1x.out.other (B' := q + 1 + 1) (i := 0) (by omega) (.int .i64 (c1 + 1))
        have h2 := L3x.out.other (B' := q + 1 + 1) (i := 0) (by omega) (.int .i64 (c1 + 1))
        refine ⟨⟨i + 1, by omega, by go_num, Lib.hid (BX.out.setCell (p := ⟨q + 1 + 1, 0, none⟩) (by dsimp only; omega) _), Lib.hid (KX.out.other (by omega) _), Lib.hid (PX.out.other (by omega) _), Lib.hid ?_, Lib.hid ?_, Lib.hid ?_⟩, by simp [intOf]; omega⟩
        · rw [N0.out]; simpa using h0
        · rw [N1.out]; simpa using h1
        · rw [N2.out]; simpa using h2
      · go_wp2_with fail
        have h2 := L3x.out.set 0 (.int .i64 (c2 + 1))
        have h0 := L1x.out.other (B' := q + 1 + 1 + 1) (i := 0) (by omega) (.int .i64 (c2 + 1))
        have h1 := L2x.out.other (B' := q + 1 + 1 + 1) (i := 0) (by omega) (.int .i64 (c2 + 1))
        refine ⟨⟨i + 1, by omega, by go_num, Lib.hid (BX.out.setCell (p := ⟨q + 1 + 1 + 1, 0, none⟩) (by dsimp only; omega) _), Lib.hid (KX.out.other (by omega) _), Lib.hid (PX.out.other (by omega) _), Lib.hid ?_, Lib.hid ?_, Lib.hid ?_⟩, by simp [intOf]; omega⟩
        · rw [N0.out]; simpa using h0
        · rw [N1.out]; simpa using h1
        · rw [N2.out]; simpa using h2
    obtain rfl : i = s.seats.length := by omega
    rw [List.take_length] at L1r L2r L3r
    have t0 : decide ((s.seats.length : Int) < (s.seats.length : Int)) = false := by simp
    have m6 := (show BoxN wr q 29 (mdCells F s).toArray from HMS.out ▸ HK.out).cell 6 (.slice F.Q s.qs.length F.qc) rfl
    have zq := HK.out.lt
    go_wp2_with fail
    clear m6 zq t0
    have HQB := Lib.hid (fun k => waitL_bd (l := s.qs.take k) fun x hx => OK.out.qlen x (List.mem_of_mem_take hx))
    have hnq := OK.out.nqs
    go_loopw [5, 38] (fun wv iv wx => ∃ k : Nat, k ≤ s.qs.length ∧ iv = .int .i64 (k : Int) ∧ wv = .int .i64 (waitL (s.qs.take k)) ∧ Hid (Below wr.heap.size wr wx)) (fun _ iv _ => s.qs.length - (intOf iv).toNat)
    case atStart => exact ⟨0, by omega, rfl, by simp [waitL], Lib.hid (Below.refl _ _)⟩
    case round =>
      obtain ⟨k, hk, rfl, rfl, HX⟩ := hrel
      rename World => wx
      have BX := Lib.hid (HB.out.trans (HX.out.mono HB.out.size))
      by_cases hkl : k < s.qs.length
      case pos =>
        have t0 : decide ((k : Int) < (s.qs.length : Int)) = true := decide_eq_true (by omega)
        have hk0 : (0 : Int) ≤ (k : Int) := by omega
        have hk1 : (k : Int) < (s.qs.length : Int) := by omega
        obtain ⟨bQ, oQ, A0, ac0, hQ, hbQ, e0, _⟩ := (HS.out.qs.up BX.out).atQ hkl
        rw [hQ]
        have NW := Lib.hid (waitL_succ s.qs hkl)
        have hw := HQB.out k
        have hlq := OK.out.qlen _ (List.getElem_mem hkl)
        rw [List.length_take, Nat.min_eq_left (by omega)] at hw
        clear hQ
        generalize waitL (s.qs.take k) = wt at *
        generalize s.qs[k].length = ql at *
        have wW : IntKind.i64.wrap (wt + (ql : Int)) = wt + (ql : Int) := IntWalk.i64_in _ (by omega)
        go_wp2_with fail
        exact ⟨⟨k + 1, by omega, by go_num, by rw [NW.out], HX⟩, by simp [intOf]; omega⟩
      obtain rfl : k = s.qs.length := by omega
      rw [List.take_length]
      have t0 : decide ((s.qs.length : Int) < (s.qs.length : Int)) = false := by simp
      have L1y := Lib.hid (L1r.out.later HX.out)
      have L2y := Lib.hid (L2r.out.later HX.out)
      have L3y := Lib.hid (L3r.out.later HX.out)
      have l1 := L1y.out.cell 0 (.int .i64 (cntL s.seats 0)) rfl
      have f1 := L1y.out.frozen 0
      have y1 := L1y.out.lt
      have l2 := L2y.out.cell 0 (.int .i64 (cntL s.seats 1)) rfl
      have f2 := L2y.out.frozen 0
      have y2 := L2y.out.lt
      have l3 := L3y.out.cell 0 (.int .i64 (cntL s.seats 2)) rfl
      have f3 := L3y.out.frozen 0
      have y3 := L3y.out.lt
      go_wp2_with fail
      have b1 := (((L1y.out.set 0 (.int .i64 (cntL s.seats 0))).other (B' := q + 1 + 1) (i := 0) (by omega) (.int .i64 (cntL s.seats 1))).other (B' := q + 1 + 1 + 1) (i := 0) (by omega) (.int .i64 (cntL s.seats 2)))
      have g1 := b1.cell 0 (.int .i64 (cntL s.seats 0)) rfl
      have b2 := (((L2y.out.other (B' := q + 1) (i := 0) (by omega) (.int .i64 (cntL s.seats 0))).set 0 (.int .i64 (cntL s.seats 1))).other (B' := q + 1 + 1 + 1) (i := 0) (by omega) (.int .i64 (cntL s.seats 2)))
      have g2 := b2.cell 0 (.int .i64 (cntL s.seats 1)) rfl
      have b3 := (((L3y.out.other (B' := q + 1) (i := 0) (by omega) (.int .i64 (cntL s.seats 0))).other (B' := q + 1 + 1) (i := 0) (by omega) (.int .i64 (cntL s.seats 1))).set 0 (.int .i64 (cntL s.seats 2)))
      have g3 := b3.cell 0 (.int .i64 (cntL s.seats 2)) rfl
      have hB := (((BX.out.setCell (p := ⟨q + 1, 0, none⟩) (by dsimp only; omega) (.int .i64 (cntL s.seats 0))).setCell (p := ⟨q + 1 + 1, 0, none⟩) (by dsimp only; omega) (.int .i64 (cntL s.seats 1))).setCell (p := ⟨q + 1 + 1 + 1, 0, none⟩) (by dsimp only; omega) (.int .i64 (cntL s.seats 2)))
      rw [hwq] at hB
      exact bodyPost_ret (v := .tuple #[.int .i64 (cntL s.seats 0), .int .i64 (cntL s.seats 1), .int .i64 (cntL s.seats 2), .int .i64 (waitL s.qs), .int .i64 0]) (by simp [results, Tryz.results14, go_sem, g1, g2, g3]) rfl ⟨rfl, hB⟩
end Go.Proofs.YtinbjfkkpcpokaaGreatDoor
