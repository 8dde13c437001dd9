/-
  Walk of venue.Place. Conditions: as the theorem says.
-/
import Derived.Test.YtcomfhigbjkoeaaGreatDoorVnH
namespace Go.Proofs.YtcomfhigbjkoeaaGreatDoor
open Go.RowKit

theorem mem_rowsOf {i : Int} {y : Rw} : ∀ {l : List Int} {k f : Int}, y ∈ rowsOf i l k f → ∃ j, ∃ h : j < l.length, y.sec = i ∧ y.row = k + j ∧ y.many = l[j] ∧ y.first = f + sum (l.take j)
  | [], _, _, h => by simp [rowsOf] at h
  | n :: l, k, f, h => by
    simp only [rowsOf] at h
    rcases List.mem_cons.1 h with rfl | h
    · exact ⟨0, by simp, rfl, by simp, rfl, by simp [sum]⟩
    · obtain ⟨j, hj, h1, h2, h3, h4⟩ := mem_rowsOf h
      exact ⟨j + 1, by simpa using hj, h1, by rw [h2]; omega, by simpa using h3, by rw [h4, List.take_succ_cons, sum]; omega⟩
theorem mem_rws {y : Rw} : ∀ {secs : List Sec} {i f : Int}, y ∈ rws secs i f → ∃ j, ∃ hj : j < secs.length, ∃ k, ∃ hk : k < secs[j].rows.length, y.sec = i + j ∧ y.row = k ∧ y.many = secs[j].rows[k] ∧ y.first = f + sum ((secs.take j).flatMap (·.rows)) + sum (secs[j].rows.take k)
  | [], _, _, h => by simp [rws] at h
  | s :: l, i, f, h => by
    simp only [rws] at h
    rcases List.mem_append.1 h with h | h
    · obtain ⟨k, hk, h1, h2, h3, h4⟩ := mem_rowsOf h
      exact ⟨0, by simp, k, by simpa using hk, by simpa using h1, by simpa using h2, by simpa using h3, by simpa [sum] using h4⟩
    · obtain ⟨j, hj, k, hk, h1, h2, h3, h4⟩ := mem_rws h
      exact ⟨j + 1, by simpa using hj, k, by simpa using hk, by rw [h1]; omega, h2, by simpa using h3, by rw [h4]; simp only [List.take_succ_cons, List.flatMap_cons, sum_append, List.getElem_cons_succ]; omega⟩

theorem rw_bd {secs : List Sec} (hok : SecsOk secs) {y : Rw} (h : y ∈ rws secs 0 0) : 0 ≤ y.first ∧ y.first ≤ 10240 ∧ 1 ≤ y.many ∧ y.many ≤ 64 := by
  obtain ⟨j, hj, k, hk, h1, h2, h3, h4⟩ := mem_rws h
  have h5 := upTo_bd (k := j) (by omega) fun i hi _ => hok.2 i hi
  have h6 := secE_ok (hok.2 j hj)
  have h7 := h6.2.1 _ (List.getElem_mem hk)
  have h8 := sum_bd (m := 64) (by decide) (l := secs[j].rows.take k) fun n hn => by have := h6.2.1 n (List.mem_of_mem_take hn); omega
  have h9 : ((secs[j].rows.take k).length : Int) ≤ 16 := by simp; omega
  have h10 := hok.1
  have h11 : sum ((secs.take j).flatMap (·.rows)) = upTo secs j := rfl
  rw [h11] at h4
  exact ⟨by omega, by omega, by omega, by omega⟩

/-- What find answers is one of the rows, where it is one. -/
theorem findV_ok {x : Ve} {seat : Int} (h : (findV x seat).2 = 0) : (checkV x).2 = 0 ∧ (findV x seat).1 ∈ rws x.secs 0 0 ∧ (findV x seat).1.first ≤ seat ∧ seat < (findV x seat).1.first + (findV x seat).1.many := by
  unfold findV at h ⊢
  by_cases hc : (checkV x).2 ≠ 0
  · rw [if_pos hc] at h
    exact absurd h hc
  · rw [if_neg hc] at h ⊢
    cases hf : (rws x.secs 0 0).find? (hit seat) with
    | none => rw [hf] at h; exact absurd h (by decide)
    | some y =>
      have hm := List.mem_of_find?_eq_some hf
      have hh : hit seat y = true := List.find?_some hf
      have hb := rw_bd (checkV_ok (Decidable.not_not.1 hc)).1 hm
      refine ⟨Decidable.not_not.1 hc, hm, ?_⟩
      simp only [hit, Bool.and_eq_true, decide_eq_true_eq, wrap64] at hh
      have : (y.first + y.many + 9223372036854775808) % 18446744073709551616 = y.first + y.many + 9223372036854775808 := Int.emod_eq_of_lt (by omega) (by omega)
      show y.first ≤ seat ∧ seat < y.first + y.many
      omega

structure Pl where
  sec : Int
  row : Int
  seat : Int
/-- What Place answers. -/
def placeV (x : Ve) (seat : Int) : Pl × Int := if (findV x seat).2 ≠ 0 then (⟨0, 0, 0⟩, (findV x seat).2) else (⟨(findV x seat).1.sec, (findV x seat).1.row, seat - (findV x seat).1.first⟩, 0)

set_option maxHeartbeats 1000000 in
theorem place_any (v : Value) (x : Ve) (seat : Int) (w : World) (hv : IsVe w v x) :
    Calls Tryz.prog 82 #[v, .int .i64 seat] w fun e w' => e = .returned (.tuple #[.agg #[.int .i64 (placeV x seat).1.sec, .int .i64 (placeV x seat).1.row, .int .i64 (placeV x seat).1.seat], .int .i64 (placeV x seat).2]) ∧ Below w.heap.size w w' := by
  have C1 := Lib.hid (fun W (hb : Below w.heap.size w W) => find_any v x seat W (by obtain ⟨A, c, h1, h2, h3⟩ := hv; exact ⟨A, c, h1, h2.up hb, h3⟩))
  obtain ⟨A, c, rfl, _, _, _, _⟩ := hv
  have hE := Lib.hid (show placeV x seat = if (findV x seat).2 ≠ 0 then (⟨0, 0, 0⟩, (findV x seat).2) else (⟨(findV x seat).1.sec, (findV x seat).1.row, seat - (findV x seat).1.first⟩, 0) from rfl)
  have hok := Lib.hid (fun h => findV_ok (x := x) (seat := seat) h)
  generalize findV x seat = E at C1 hE hok
  obtain ⟨y, e⟩ := E
  simp only at C1 hE hok
  go_enter Tryz.func82, Tryz.ntmps82
  go_wp2_with fail
  refine (C1.out _ (bal (ba _ _))).mono ?_
  rintro e1 w1 ⟨rfl, hb1⟩
  have b4 : BoxN w1 (w.heap.size + 1) 103 #[.int .i64 0, .int .i64 0, .int .i64 0] := by
    have h := BoxN.new (w.alloc (.cells #[.int .i64 x.shards, .int .i64 x.ttl, .int .i64 x.session, .slice A x.secs.length c] 24)) 103 #[.int .i64 0, .int .i64 0, .int .i64 0]
    rw [World.size_alloc] at h
    exact h.later hb1
  have hbw : Below w.heap.size w w1 := (bal (ba w _)).trans (hb1.mono (bal (ba w _)).size)
  have d0 := b4.cell 0 (.int .i64 0) rfl
  have d1 := b4.cell 1 (.int .i64 0) rfl
  have d2 := b4.cell 2 (.int .i64 0) rfl
  have fd0 := b4.frozen 0
  have fd1 := b4.frozen 1
  have fd2 := b4.frozen 2
  have z4 := b4.lt
  by_cases h : e = 0
  case neg =>
    have t0 : (e != 0) = true := by simpa using h
    go_wp2_with fail
    have b4' := (((b4.set 0 (.int .i64 0)).set 1 (.int .i64 0)).set 2 (.int .i64 0)).alloc (.cells #[.int .i64 y.sec, .int .i64 y.row, .int .i64 y.first, .int .i64 y.many] 91)
    have g0 := b4'.cell 0 (.int .i64 0) rfl
    have g1 := b4'.cell 1 (.int .i64 0) rfl
    have g2 := b4'.cell 2 (.int .i64 0) rfl
    have hB := ((hbw.setCell (p := ⟨w.heap.size + 1, 0, none⟩) (by simp) (.int .i64 0)).setCell (p := ⟨w.heap.size + 1, 1, none⟩) (by simp) (.int .i64 0)).setCell (p := ⟨w.heap.size + 1, 2, none⟩) (by simp) (.int .i64 0)
    exact bodyPost_ret (v := .tuple #[.agg #[.int .i64 0, .int .i64 0, .int .i64 0], .int .i64 e]) (by simp [results, Tryz.results82, go_sem, g0, g1, g2]) rfl ⟨by rw [hE.out, if_pos h], bal hB⟩
  subst h
  obtain ⟨hc, hm, hf1, hf2⟩ := hok.out rfl
  have hb := rw_bd (checkV_ok hc).1 hm
  have hwr : IntKind.i64.wrap (seat - y.first) = seat - y.first := IntWalk.i64_in _ (by omega)
  go_wp2_with fail
  have b4' := (((b4.set 0 (.int .i64 y.sec)).set 1 (.int .i64 y.row)).set 2 (.int .i64 (seat - y.first))).alloc (.cells #[.int .i64 y.sec, .int .i64 y.row, .int .i64 y.first, .int .i64 y.many] 91)
  have g0 := b4'.cell 0 (.int .i64 y.sec) rfl
  have g1 := b4'.cell 1 (.int .i64 y.row) rfl
  have g2 := b4'.cell 2 (.int .i64 (seat - y.first)) rfl
  have hB := ((hbw.setCell (p := ⟨w.heap.size + 1, 0, none⟩) (by simp) (.int .i64 y.sec)).setCell (p := ⟨w.heap.size + 1, 1, none⟩) (by simp) (.int .i64 y.row)).setCell (p := ⟨w.heap.size + 1, 2, none⟩) (by simp) (.int .i64 (seat - y.first))
  exact bodyPost_ret (v := .tuple #[.agg #[.int .i64 y.sec, .int .i64 y.row, .int .i64 (seat - y.first)], .int .i64 0]) (by simp [results, Tryz.results82, go_sem, g0, g1, g2]) rfl ⟨by rw [hE.out, if_neg (by simp)], bal hB⟩
end Go.Proofs.YtcomfhigbjkoeaaGreatDoor
