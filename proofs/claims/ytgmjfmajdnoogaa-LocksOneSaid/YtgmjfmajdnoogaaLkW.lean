/-
  Walk of slices.Insert at waits, second part: no room; and its contract over a slice of the call's own. Conditions: as each theorem says.
-/
import Derived.Test.YtgmjfmajdnoogaaLkV
namespace Go.Proofs.Ytgmjfmajdnoogaa
open Go.RowKit Go.Proofs

theorem ins_row2 {R cs R1 R2 : List Value} {n i N : Nat} {u1 u2 : Value} (hR : R.length = N) (hN : (n + 1) * 2 ≤ N) (hcl : cs.length = n * 2) (hRP : R.take (i * 2) = cs.take (i * 2)) (hi : i < n)
    (e1 : R1 = R.take (i * 2) ++ [u1, u2] ++ R.drop (i * 2 + 2)) (e2 : R2 = R1.take ((i + 1) * 2) ++ cs.drop (i * 2) ++ R1.drop ((i + 1) * 2 + (cs.drop (i * 2)).length)) :
    R1.length = N ∧ R2.length = N ∧ R2.take ((n + 1) * 2) = cs.take (i * 2) ++ [u1, u2] ++ cs.drop (i * 2) := by
  rw [hRP] at e1
  have lP : (cs.take (i * 2)).length = i * 2 := by rw [List.length_take, hcl]; omega
  have lQ : (cs.drop (i * 2)).length = n * 2 - i * 2 := by rw [List.length_drop, hcl]
  have l1 : R1.length = N := by rw [e1]; simp only [List.length_append, List.length_cons, List.length_nil, List.length_drop, lP]; omega
  have l3 : (cs.take (i * 2) ++ [u1, u2]).length = (i + 1) * 2 := by simp only [List.length_append, List.length_cons, List.length_nil, lP]; omega
  have t1 : R1.take ((i + 1) * 2) = cs.take (i * 2) ++ [u1, u2] := by
    rw [e1, List.take_append, List.take_of_length_le (by omega), show (i + 1) * 2 - (cs.take (i * 2) ++ [u1, u2]).length = 0 by omega, List.take_zero, List.append_nil]
  rw [t1] at e2
  refine ⟨l1, ?_, ?_⟩
  · rw [e2]; simp only [List.length_append, List.length_drop, List.length_cons, List.length_nil, lP, lQ, l1]; omega
  · rw [e2, List.take_append, List.take_of_length_le (by simp only [List.length_append, l3, lQ]; omega), show (n + 1) * 2 - (cs.take (i * 2) ++ [u1, u2] ++ cs.drop (i * 2)).length = 0 by rw [List.length_append, l3, lQ]; omega, List.take_zero, List.append_nil]

theorem zero_len (k : Nat) : (Builtin.zeroCells (Value.agg #[Value.int .i64 0, Value.int .i64 0]).cells k).size = k * 2 := by simp [Builtin.zeroCells, Value.cells]

set_option maxHeartbeats 2000000 in
set_option maxRecDepth 100000 in
/-- No room, ahead of the end: a new row. -/
theorem insertW_grow (g n c i vb : Nat) (cur : Array Value) (cs : List Value) (u1 u2 : Value) (w : World) (hi : i < n) (hnc : n ≤ c) (hroom : c < n + 1) (hc : c ≤ 1000000)
    (hg : w.heap[g]? = some (.cells cur 33 (0, 0))) (hsz : cur.size = c * 2) (hcs : cur.toList.take (n * 2) = cs) (h1c : ∀ v ∈ cs, v.oneCell' = true) (h1u : u1.oneCell' = true) (h2u : u2.oneCell' = true)
    (hv : w.heap[vb]? = some (.cells #[u1, u2] 33 (0, 0))) :
    Calls Try.prog 52 #[.slice (some ⟨g, 0, none⟩) n c, .int .i64 i, .slice (some ⟨vb, 0, none⟩) 1 1] w fun e w' =>
      ∃ (G : Nat) (R2 : List Value), e = .returned (.slice (some ⟨w.heap.size, 0, none⟩) (n + 1) G) ∧ n + 1 ≤ G ∧ G ≤ maxLen ∧ w'.heap[w.heap.size]? = some (.cells R2.toArray 33 (0, 0)) ∧ w.grownBy w' none ∧ R2.length = G * 2 ∧ R2.take ((n + 1) * 2) = cs.take (i * 2) ++ [u1, u2] ++ cs.drop (i * 2) := by
  have hgc : ∀ j v, cur.toList[j]? = some v → w.cell? ⟨g, j, none⟩ = some v := fun j v hj => by
    simp only [World.cell?, hg]
    rwa [Array.getElem?_toList] at hj
  have hcl : cs.length = n * 2 := by rw [← hcs, List.length_take, Array.length_toList, hsz]; omega
  have hcsat : ∀ j v, cs[j]? = some v → w.cell? ⟨g, j, none⟩ = some v := fun j v hj => hgc j v (by rw [← hcs, List.getElem?_take] at hj; split at hj; exact hj; cases hj)
  have hgl : g < w.heap.size := (Array.getElem?_eq_some_iff.1 hg).1
  have hvl : vb < w.heap.size := (Array.getElem?_eq_some_iff.1 hv).1
  obtain ⟨i0, hi0, hz0, hzs, hzb⟩ := info_parts infoW
  have hzs' : i0.size = 2 := hzs
  have hold : (Builtin.firstCells i0.size i (.slice (some ⟨g, 0, none⟩) i c)).run Try.prog w.drew = .ok (cs.take (i * 2)).toArray w.drew := by
    rw [hzs']
    exact run_firstCells_some w.drew 2 i ⟨g, 0, none⟩ i c (cs.take (i * 2)) (by rw [List.length_take, hcl]; omega) (fun j v hj => by
      rw [Addr.add_lit, Nat.zero_add]
      rw [List.getElem?_take] at hj
      split at hj
      · exact hcsat j v hj
      · cases hj)
  have hkk : (n : Int) + 1 - (i : Int) = ((n + 1 - i : Nat) : Int) := by omega
  have hik : i + (n + 1 - i) = n + 1 := by omega
  obtain ⟨G, hG⟩ : ∃ G, G = grownCap w (n + 1) c 33 := ⟨_, rfl⟩
  obtain ⟨ROW, hROW⟩ : ∃ ROW : Array Value, ROW = (cs.take (i * 2)).toArray ++ Builtin.zeroCells (Value.agg #[Value.int .i64 0, Value.int .i64 0]).cells (n + 1 - i) ++ Builtin.zeroCells (Value.agg #[Value.int .i64 0, Value.int .i64 0]).cells (G - (n + 1)) := ⟨_, rfl⟩
  have hrz : ∀ ty, (Builtin.append_ #[23, 3] ty #[.slice (some ⟨g, 0, none⟩) i c, .int .i64 ((n : Int) + 1 - (i : Int))]).run Try.prog w =
      .ok (.slice (some ⟨w.heap.size, 0, none⟩) (n + 1) G) (w.drew.alloc (.cells ROW 33)) := fun ty => by
    have h := Lib.run_append_grow_zeros w 23 3 ty 33 i0 _ .i64 .i64 Try.underlying23 Try.underlying3 hi0 hz0 (some ⟨g, 0, none⟩) i c (cs.take (i * 2)) hold (n + 1 - i) (by omega) (by rw [hzs']; omega) (by omega) (by omega) (by rw [hzb]; omega) (by rw [hzb, hik]; exact growslice_fits hroom (by omega))
    rw [hik] at h
    rw [hkk, hROW, hG]
    exact h
  have hGn : n + 1 ≤ G := by rw [hG]; exact grownCap_ge w _ _ _
  have hG63 : G ≤ maxLen := by rw [hG]; exact grownCap_le_maxLen w (n + 1) c 33 (by unfold maxLen; omega)
  have hRl : ROW.toList.length = G * 2 := by
    rw [hROW]
    simp only [Array.length_toList, Array.size_append, zero_len, List.size_toArray, List.length_take, hcl]
    omega
  have hRP : ROW.toList.take (i * 2) = cs.take (i * 2) := by
    rw [hROW]
    simp only [Array.toList_append]
    rw [List.append_assoc, List.take_append, List.take_of_length_le (by simp [hcl]; omega), show i * 2 - (cs.take (i * 2)).toArray.toList.length = 0 by simp [hcl]; omega, List.take_zero, List.append_nil]
  obtain ⟨R1, hR1⟩ : ∃ R1 : List Value, R1 = ROW.toList.take (i * 2) ++ [u1, u2] ++ ROW.toList.drop (i * 2 + 2) := ⟨_, rfl⟩
  obtain ⟨R2, hR2⟩ : ∃ R2 : List Value, R2 = R1.take ((i + 1) * 2) ++ cs.drop (i * 2) ++ R1.drop ((i + 1) * 2 + (cs.drop (i * 2)).length) := ⟨_, rfl⟩
  have hrows := ins_row2 (n := n) (N := G * 2) hRl (by omega) hcl hRP hi hR1 hR2
  have hcpA : ∀ (W : World), W.heap[w.heap.size]? = some (.cells ROW 33 (0, 0)) → W.heap[vb]? = some (.cells #[u1, u2] 33 (0, 0)) → ∀ ty dc, (Builtin.copy_ #[23, 23] ty #[.slice (some ⟨w.heap.size, i * 2, none⟩) (n + 1 - i) dc, .slice (some ⟨vb, 0, none⟩) 1 1]).run Try.prog W = .ok (goInt (Nat.min 1 (n + 1 - i))) (W.setRow w.heap.size R1.toArray) := fun W hW1 hW2 ty dc => by
    rw [hR1]
    have h := run_copy_rowK (P := Try.prog) W 23 23 ty 33 2 w.heap.size (i * 2) (n + 1 - i) dc ⟨vb, 0, none⟩ 1 1 ROW 33 [u1, u2] Try.underlying23 sizeW hW1 (by simp only [Nat.min_def]; split <;> simp; omega)
      (fun j v hj => by
        rw [Addr.add_lit, Nat.zero_add]
        simp only [World.cell?, hW2]
        match j, hj with
        | 0, hj => simpa using hj
        | 1, hj => simpa using hj) (by rw [← Array.length_toList, hRl]; simp; omega) (by simp [h1u, h2u])
    simpa using h
  have hdl : (cs.drop (i * 2)).length = (n - i) * 2 := by rw [List.length_drop, hcl, Nat.sub_mul]
  have hcpB : ∀ (W : World), W.heap[w.heap.size]? = some (.cells R1.toArray 33 (0, 0)) → W.heap[g]? = w.heap[g]? → ∀ ty dc sc, (Builtin.copy_ #[23, 23] ty #[.slice (some ⟨w.heap.size, (i + 1) * 2, none⟩) (n - i) dc, .slice (some ⟨g, i * 2, none⟩) (n - i) sc]).run Try.prog W = .ok (goInt (Nat.min (n - i) (n - i))) (W.setRow w.heap.size R2.toArray) := fun W hW1 hW2 ty dc sc => by
    rw [hR2]
    have h := run_copy_rowK (P := Try.prog) W 23 23 ty 33 2 w.heap.size ((i + 1) * 2) (n - i) dc ⟨g, i * 2, none⟩ (n - i) sc R1.toArray 33 (cs.drop (i * 2)) Try.underlying23 sizeW hW1 (by rw [hdl]; simp)
      (fun j v hj => by
        rw [Addr.add_lit]
        have h3 := hcsat (i * 2 + j) v (by rwa [List.getElem?_drop] at hj)
        simp only [World.cell?, hW2]
        exact h3) (by rw [hdl]; simp [hrows.1]; omega) (fun v hv => h1c v (List.mem_of_mem_drop hv))
    simpa using h
  have hN1 := Lib.hid (show ((w.alloc (.cells ROW 33)).drew).heap[w.heap.size]? = some (.cells ROW 33 (0, 0)) from heap_alloc_new w (.cells ROW 33))
  have hN2 := Lib.hid (show ((w.alloc (.cells ROW 33)).drew).heap[vb]? = some (.cells #[u1, u2] 33 (0, 0)) from ((ba w (.cells ROW 33)).block vb hvl).trans hv)
  have hN3 := Lib.hid (show ((w.alloc (.cells ROW 33)).drew).heap[g]? = w.heap[g]? from (ba w (.cells ROW 33)).block g hgl)
  have hw1 : IntKind.i64.wrap ((i : Int) + 1) = (i : Int) + 1 := by rw [IntKind.wrap_i64]; omega
  have hw2 : IntKind.i64.wrap ((n : Int) + 1) = (n : Int) + 1 := by rw [IntKind.wrap_i64]; omega
  have hb0 : ¬ ((i : Int) = (n : Int)) := by omega
  have hb1 : (0 : Int) ≤ (i : Int) + 1 := by omega
  have htn : ((i : Int) + 1).toNat = i + 1 := by omega
  have hb2 : ¬ (G = i + 1) := by omega
  have hb3 : (i : Int) ≤ (n : Int) + 1 := by omega
  have hb4 : ¬ (G = i) := by omega
  have hb5 : (c : Int) < (n : Int) + 1 := by omega
  have hb6 : i ≤ n := by omega
  have hb7 : ¬ (c = i) := by omega
  have hG9 : G ≤ 9223372036854775807 := by unfold maxLen at hG63; omega
  have HR := Lib.hid hrows
  clear hkk hik hold hROW hG hRl hRP hR1 hR2 hrows hgc hcsat hg hv
  go_enter Try.func52, Try.ntmps52
  go_wp2_with (at_builtin; refine Lib.wpList_append_run _ rfl _ _ _ _ rfl _ _ rfl rfl _ _ (hrz _) ?_)
  rw [hcpA _ hN1.out hN2.out]
  go_wp2_with fail
  have hM1 := Lib.hid (show (((w.alloc (.cells ROW 33)).drew.setRow w.heap.size R1.toArray).drew).heap[w.heap.size]? = some (.cells R1.toArray 33 (0, 0)) from setRow_heap _ _ ROW _ _ _ hN1.out)
  have hM2 := Lib.hid (show (((w.alloc (.cells ROW 33)).drew.setRow w.heap.size R1.toArray).drew).heap[g]? = w.heap[g]? from (setRow_other _ w.heap.size g _ (by omega)).trans hN3.out)
  go_region_law (refine step_copy_runI rfl _ _ 23 23 rfl (.slice (some ⟨w.heap.size, (i + 1) * 2, none⟩) (n - i) (G - (i + 1))) (.slice (some ⟨g, i * 2, none⟩) (n - i) (c - i)) (by simp [Act.eval, Act.put]) (by simp [Act.eval, Act.put]) (hcpB (((w.alloc (.cells ROW 33)).drew.setRow w.heap.size R1.toArray).drew) hM1.out hM2.out _ _ _) ?_)
  go_wp2_with fail
  go_ret
  refine ⟨G, R2, rfl, hGn, hG63, setRow_heap _ _ _ _ _ _ hM1.out, ⟨rfl, rfl, rfl, by simp [World.setRow], fun k hk _ => ?_⟩, HR.out.2.1, HR.out.2.2⟩
  exact ((setRow_other _ w.heap.size k _ (by omega)).trans (setRow_other _ w.heap.size k _ (by omega))).trans ((ba w (.cells ROW 33)).block k hk)

set_option maxHeartbeats 2000000 in
/-- slices.Insert, one wait, into a slice of the call's own. -/
theorem insert_any (v : Value) (ws : List Wt) (x : Wt) (i B vb : Nat) (w : World) (ho : Own wtR 33 B w v ws) (hi : i ≤ ws.length) (hz : ws.length ≤ 1000) (hv : w.heap[vb]? = some (.cells #[.int .i64 x.task, .int .i64 x.lock] 33 (0, 0)))
    (hne : v.ownBlock ≠ some vb) (b0 : Bd x.task) (b1 : Bd x.lock) (hB : B ≤ w.heap.size) :
    Calls Try.prog 52 #[v, .int .i64 i, .slice (some ⟨vb, 0, none⟩) 1 1] w fun e w' =>
      ∃ v', e = .returned v' ∧ Own wtR 33 B w' v' (ws.take i ++ [x] ++ ws.drop i) ∧ w.grownBy w' v.ownBlock ∧ (v'.ownBlock = v.ownBlock ∨ v'.ownBlock = some w.heap.size) := by
  have hx : wtR.is w [.int .i64 x.task, .int .i64 x.lock] x := ⟨rfl, b0, b1⟩
  have hvl : vb < w.heap.size := (Array.getElem?_eq_some_iff.1 hv).1
  have hsl : Sl wtR w (.slice (some ⟨vb, 0, none⟩) 1 1) [x] := by
    refine ⟨_, 1, rfl, by simp, by omega, .inr ⟨vb, 0, rfl, hvl, fun j y hj => ?_⟩⟩
    match j, hj with
    | 0, hj =>
      simp at hj; subst hj
      refine ⟨_, hx, fun j u hu => ?_⟩
      simp only [World.cell?, Nat.zero_mul, Nat.zero_add, hv]
      match j, hu with
      | 0, hu => simpa using hu
      | 1, hu => simpa using hu
  by_cases hin : i = ws.length
  · subst hin
    rw [List.take_of_length_le (Nat.le_refl _), List.drop_of_length_le (Nat.le_refl _), List.append_nil]
    obtain ⟨A, c, rfl, hlc, hcm, ho⟩ := ho.form
    have HO := Lib.hid ho
    have HS := Lib.hid hsl
    clear hne hx hv ho hsl
    go_enter Try.func52, Try.ntmps52
    go_wp2_with (at_builtin; refine wpList_append_sl _ rfl (.tmp 23) (.tmp 24) 23 rfl wtR B 33 _ 16 Try.underlying23 infoW rfl (by decide) (.slice A ws.length c) ws rfl HO.out _ [x] rfl HS.out (by rw [List.length_singleton]; omega) (by decide) hB (fun w' _ cs y h => wtR_flat _ _ _ _ h) ?_; intro v1 w2 hown1 hg1 hat1)
    all_goals
      go_ret
      refine ⟨_, rfl, hown1, ?_, ?_⟩
      · first | exact hg1 | (cases A <;> exact hg1)
      · first | exact hat1 | (cases A <;> exact hat1)
  · obtain ⟨cells, ⟨hlen, hor⟩, hm⟩ := ho
    have hlen2 : cells.length = ws.length * 2 := hlen
    rcases hor with ⟨_, h0⟩ | ⟨g, cap, cur, rfl, hBg, hg, hnc, hcm, hcs, htake⟩
    · omega
    · have hcs2 : cur.size = cap * 2 := hcs
      have ht2 : cur.toList.take (ws.length * 2) = cells := htake
      have hone := Rep.many_ones hm
      have hmany : ∀ w' : World, wtR.many w' (cells.take (i * 2) ++ [.int .i64 x.task, .int .i64 x.lock] ++ cells.drop (i * 2)) (ws.take i ++ [x] ++ ws.drop i) := fun w' =>
        Rep.many_flat wtR_flat (Rep.many_append (Rep.many_append (wtR.many_take i hm hi) (Rep.many_one hx)) (Rep.many_drop i hm hi))
      have hln : (ws.take i ++ [x] ++ ws.drop i).length = ws.length + 1 := by simp; omega
      have hnl : vb ≠ g := fun e => hne (by rw [e]; rfl)
      by_cases hroom : ws.length + 1 ≤ cap
      · refine (insertW_room g ws.length cap i vb cur cells _ _ w (by omega) hroom (by omega) (by unfold maxLen at hcm; omega) hnl hg hcs2 ht2 hone rfl rfl hv).mono ?_
        rintro e w' ⟨rfl, R2, rfl, hl2, htk⟩
        refine ⟨_, rfl, ⟨_, ⟨by rw [(Rep.many_len (hmany w)), hln], .inr ⟨g, cap, R2.toArray, by rw [hln], hBg, setRow_heap w.drew g cur _ _ _ hg, by omega, hcm, by show R2.toArray.size = cap * 2; simpa using hl2, ?_⟩⟩, hmany _⟩, ?_, .inl rfl⟩
        · rw [hln]
          show R2.toArray.toList.take ((ws.length + 1) * 2) = _
          rw [List.toList_toArray]
          exact htk
        · exact ⟨rfl, rfl, rfl, by simp [World.setRow], fun k _ hk => setRow_other w.drew g k _ (fun e => hk (by rw [e]; rfl))⟩
      · refine (insertW_grow g ws.length cap i vb cur cells _ _ w (by omega) hnc (by omega) (by omega) hg hcs2 ht2 hone rfl rfl hv).mono ?_
        rintro e w' ⟨G, R2, rfl, hGn, hGm, hh, hgr, hl2, htk⟩
        refine ⟨_, rfl, ⟨_, ⟨by rw [(Rep.many_len (hmany w)), hln], .inr ⟨w.heap.size, G, R2.toArray, by rw [hln], hB, hh, by omega, hGm, by show R2.toArray.size = G * 2; simpa using hl2, ?_⟩⟩, hmany _⟩, ?_, .inr rfl⟩
        · rw [hln]
          show R2.toArray.toList.take ((ws.length + 1) * 2) = _
          rw [List.toList_toArray]
          exact htk
        · exact ⟨hgr.os, hgr.tape, hgr.output, hgr.size, fun k hk _ => hgr.block k hk (by simp)⟩
end Go.Proofs.Ytgmjfmajdnoogaa
