/-
  The plain law of AuditTimes: a hold that has ended may be somebody else's. Conditions: as each theorem says.
-/
import Derived.Test.YtcomfhigbjkoeaaDoorPlOne
namespace Go.Proofs.YtcomfhigbjkoeaaDoor
open Go.RowKit

theorem seats_pos {x : Ve} {n : Int} (h : seatsV x = (n, 0)) : 1 ≤ n ∧ n ≤ 4096 ∧ 0 ≤ x.ttl ∧ x.ttl ≤ 1000000000 := by
  have hc : (checkV x).2 = 0 := by
    by_cases hc : (checkV x).2 ≠ 0
    · unfold seatsV at h
      rw [if_pos hc] at h
      exact absurd (congrArg Prod.snd h) hc
    · exact Decidable.not_not.1 hc
  have hn : n = sum (allRows x) := by
    unfold seatsV at h
    rw [if_neg (by simp [hc])] at h
    injection h with h _
    exact h.symm
  obtain ⟨hok, h2, h3, _⟩ := checkV_ok hc
  have hl : x.secs.length ≠ 0 := by
    intro h0
    unfold checkV at hc
    split at hc
    · simp at hc
    · simp at hc
  have h4 : 1 ≤ sum (allRows x) := by
    unfold allRows
    obtain ⟨shards, ttl, session, secs⟩ := x
    dsimp only at hok hl ⊢
    match secs, hl with
    | s :: rest, _ =>
      have hs := secE_ok (hok.2 0 (by simp))
      simp only [List.getElem_cons_zero] at hs
      obtain ⟨_, hr, _, _, hr1⟩ := hs
      rw [List.flatMap_cons, sum_append]
      have hrest : 0 ≤ sum (rest.flatMap (·.rows)) := by
        refine (sum_bd (m := 64) (by decide) fun n hn => ?_).1
        obtain ⟨t, ht, hn⟩ := List.mem_flatMap.1 hn
        obtain ⟨j, hj, rfl⟩ := List.getElem_of_mem ht
        have := (secE_ok (hok.2 (j + 1) (by simpa using hj))).2.1 n (by simpa using hn)
        omega
      match hrw : s.rows, hr1 with
      | r :: l, _ =>
        have h5 := hr r (by rw [hrw]; simp)
        have h6 := (sum_bd (m := 64) (by decide) (l := l) fun n hn => by have := hr n (by rw [hrw]; simp [hn]); omega).1
        simp only [sum]
        omega
  exact ⟨by omega, by omega, by omega, by omega⟩

theorem broken_free {s : Au} {op : MOp} {rp : MRp} (h : moreA op.kind rp = false) (he : rp.err = 0) (h0 : sessionA s op = false) (h1 : ownerA op = false) (h2 : lostA s op rp = false) (h3 : clockA s op = false) (h4 : lateA s.ve s.now op.kind rp.deadline = false)
    (h5 : takenA s.seats op rp = false) (h6 : holderA s.seats op = false) (h7 : validB s.seats op = false) (h8 : soldA s.seats op = false) (h9 : wrongA s.seats op rp = false) (h10 : listA s.ve s.waiting op rp = false) : brokenA s op rp = 0 := by
  unfold brokenA
  rw [if_neg (by simp [h]), if_neg (by simp [he]), find_range_none (n := 11) fun j hj => ?_]
  match j, hj with
  | 0, _ => exact h0
  | 1, _ => exact h1
  | 2, _ => exact h2
  | 3, _ => exact h3
  | 4, _ => exact h4
  | 5, _ => exact h5
  | 6, _ => exact h6
  | 7, _ => exact h7
  | 8, _ => exact h8
  | 9, _ => exact h9
  | 10, _ => exact h10
theorem broken_holder {s : Au} {op : MOp} {rp : MRp} (h : moreA op.kind rp = false) (he : rp.err = 0) (h0 : sessionA s op = false) (h1 : ownerA op = false) (h2 : lostA s op rp = false) (h3 : clockA s op = false) (h4 : lateA s.ve s.now op.kind rp.deadline = false)
    (h5 : takenA s.seats op rp = false) (h6 : holderA s.seats op = true) : brokenA s op rp = 9 := by
  unfold brokenA
  rw [if_neg (by simp [h]), if_neg (by simp [he]), find_range (n := 11) (k := 6) (by omega) h6 fun j hj => ?_]
  · rfl
  match j, hj with
  | 0, _ => exact h0
  | 1, _ => exact h1
  | 2, _ => exact h2
  | 3, _ => exact h3
  | 4, _ => exact h4
  | 5, _ => exact h5

def timesL (now t d i owner other : Int) : List (MOp × MRp) :=
  [(⟨12, 0, 0, 0, 0, 0, 0, noTk, now⟩, noRp), (⟨2, owner, 9223372036854775807, i, 0, 0, 0, noTk, 0⟩, ⟨0, 0, 0, d, noTk, 0⟩), (⟨12, 0, 0, 0, 0, 0, 0, noTk, t⟩, noRp), (⟨5, other, 9223372036854775807, i, 0, 0, 0, noTk, 0⟩, ⟨0, 0, 0, 0, ⟨i, other, 1, 0⟩, 0⟩)]

theorem more_tick : moreA 12 noRp = false := by decide +kernel
theorem more_hold (d : Int) : moreA 2 ⟨0, 0, 0, d, noTk, 0⟩ = false := by simp [moreA, leftA, noRp, noTk, isB]
theorem more_buy (T : Tk) : moreA 5 ⟨0, 0, 0, 0, T, 0⟩ = false := by simp [moreA, leftA, noRp, noTk, isB]

theorem read_free {s : Au} {op : MOp} {rp : MRp} (hk : 1 ≤ op.kind ∧ op.kind ≤ 12) (he : rp.err = 0) (h : brokenA s op rp = 0) : readA s op rp = (0, 0, learnA s op rp) := by
  rw [readA, if_neg (by simp; omega), h, if_pos ⟨rfl, he⟩]

theorem read_tick {s : Au} {now : Int} (h : s.now ≤ now) : readA s ⟨12, 0, 0, 0, 0, 0, 0, noTk, now⟩ noRp = (0, 0, { s with now := now, seats := s.seats.map (tickS now) }) := by
  rw [read_free (by simp) rfl (broken_free more_tick rfl (by simp [sessionA, isB]) (by simp [ownerA, isB]) (by simp [lostA, isB]) (by simp [clockA, isB]; omega) (by simp [lateA, isB]) (by simp [takenA, isB]) (by simp [holderA, isB]) (by simp [validB, isB]) (by simp [soldA, isB]) (by simp [wrongA, isB]) (by simp [listA, isB]))]
  simp [learnA, isB]

theorem times_check {x : Ve} {n now t d i owner other : Int} (hs : seatsV x = (n, 0)) (hi0 : 0 ≤ i) (hi : i < n) (hnow : 0 ≤ now) (hnt : now ≤ t) (ht : t < 9223372036854775807) (hd : d = (addT now x.ttl).1) (hne : owner ≠ other) :
    checkA x (timesL now t d i owner other) = (if d ≤ t then [] else [(3, 9)], 0) := by
  have hn := seats_pos hs
  have hN : newA x = (⟨x, 0, List.replicate n.toNat zeroSe, List.replicate x.secs.length 0⟩, 0) := by
    unfold newA
    rw [hs]
    simp
  unfold checkA
  rw [hN]
  dsimp only
  rw [if_neg (by simp), if_neg (by simp [timesL])]
  obtain ⟨k, rfl⟩ : ∃ k : Nat, i = (k : Int) := ⟨i.toNat, by omega⟩
  have hk : k < n.toNat := by omega
  generalize hw : List.replicate x.secs.length (0 : Int) = wt
  have hz : (List.replicate n.toNat zeroSe).map (tickS now) = List.replicate n.toNat zeroSe := by simp [tickS, zeroSe]
  obtain ⟨Z, hZ⟩ : ∃ Z, List.replicate n.toNat zeroSe = Z := ⟨_, rfl⟩
  have hZl : Z.length = n.toNat := by rw [← hZ]; simp
  have hZk : Z[k]? = some zeroSe := by rw [← hZ]; simp [hk]
  rw [hZ] at hz ⊢
  have hZg : Z[k]'(by omega) = zeroSe := by
    rw [List.getElem?_eq_getElem (by omega)] at hZk
    exact Option.some.inj hZk
  unfold timesL
  simp only [checkLoop]
  rw [read_tick hnow]
  dsimp only
  rw [hz]
  have r1 : readA ⟨x, now, Z, wt⟩ ⟨2, owner, 9223372036854775807, (k : Int), 0, 0, 0, noTk, 0⟩ ⟨0, 0, 0, d, noTk, 0⟩ = (0, 0, ⟨x, now, modSeg (holdS owner d) Z k 1, wt⟩) := by
    rw [read_free (by simp) rfl (broken_free (more_hold d) rfl (by simp [sessionA, isB]; omega) (by simp [ownerA, isB]) (by simp [lostA, isB, seatA, hZl]; omega) (by simp [clockA, isB]) (by simp [lateA, isB, hd])
      (by
        have hc : chosenL Z ⟨2, owner, 9223372036854775807, (k : Int), 0, 0, 0, noTk, 0⟩ ⟨0, 0, 0, d, noTk, 0⟩ = [zeroSe] := by
          unfold chosenL
          rw [if_neg (by simp [isB])]
          dsimp only
          rw [Int.toNat_natCast, List.drop_eq_getElem_cons (i := k) (by omega), List.take_succ_cons, List.take_zero, hZg]
        simp [takenA, hc, zeroSe]) (by simp [holderA, isB]) (by simp [validB, isB]) (by simp [soldA, isB]) (by simp [wrongA, isB]) (by simp [listA, isB]))]
    simp [learnA, isB, firstA, manyA]
  rw [r1]
  dsimp only
  have hYl : (modSeg (holdS owner d) Z k 1).length = Z.length := modSeg_len _ _ _ _ (by omega)
  have hYk : (modSeg (holdS owner d) Z k 1)[k]? = some ⟨false, true, owner, d, 0, 0⟩ := by
    rw [List.getElem?_eq_getElem (by omega), modSeg_get _ _ _ _ _ (by omega) (by omega), if_pos (by omega), hZg]
    rfl
  generalize modSeg (holdS owner d) Z k 1 = Y at hYl hYk
  rw [read_tick (s := ⟨x, now, Y, wt⟩) hnt]
  dsimp only
  have hXl : (Y.map (tickS t)).length = Z.length := by rw [List.length_map, hYl]
  have hXk : (Y.map (tickS t))[k]? = some (tickS t ⟨false, true, owner, d, 0, 0⟩) := by rw [List.getElem?_map, hYk]; rfl
  generalize Y.map (tickS t) = X at hXl hXk
  by_cases h : d ≤ t
  · have hX : X[k]? = some zeroSe := by rw [hXk]; simp [tickS, h, freeS, zeroSe]
    have r3 : ∃ s', readA ⟨x, t, X, wt⟩ ⟨5, other, 9223372036854775807, (k : Int), 0, 0, 0, noTk, 0⟩ ⟨0, 0, 0, 0, ⟨(k : Int), other, 1, 0⟩, 0⟩ = (0, 0, s') := by
      rw [read_free (by simp) rfl (broken_free (more_buy _) rfl (by simp [sessionA, isB]; omega) (by simp [ownerA, isB]) (by simp [lostA, isB, seatA, hXl, hZl]; omega) (by simp [clockA, isB]) (by simp [lateA, isB])
        (by simp [takenA, isB]) (by simp [holderA, isB, hX, zeroSe]) (by simp [validB, isB]) (by simp [soldA, isB]) (by simp [wrongA, isB, seatA, hX, zeroSe]) (by simp [listA, isB]))]
      exact ⟨_, rfl⟩
    obtain ⟨s', r3⟩ := r3
    rw [r3, if_pos h]
    simp
  · have hX : X[k]? = some ⟨false, true, owner, d, 0, 0⟩ := by rw [hXk]; simp [tickS, h]
    have r3 : readA ⟨x, t, X, wt⟩ ⟨5, other, 9223372036854775807, (k : Int), 0, 0, 0, noTk, 0⟩ ⟨0, 0, 0, 0, ⟨(k : Int), other, 1, 0⟩, 0⟩ = (9, 0, ⟨x, t, X, wt⟩) := by
      rw [readA, if_neg (by simp), broken_holder (more_buy _) rfl (by simp [sessionA, isB]; omega) (by simp [ownerA, isB]) (by simp [lostA, isB, seatA, hXl, hZl]; omega) (by simp [clockA, isB]) (by simp [lateA, isB])
        (by simp [takenA, isB]) (by simp [holderA, isB, hX, hne]), if_neg (by simp)]
    rw [r3, if_neg h]
    simp
end Go.Proofs.YtcomfhigbjkoeaaDoor
