/-
  Walk of slices.Insert at waits, one element, into a slice of the call's own. Conditions: as each theorem says.
-/
import Derived.Test.YtgmjfmajdnoogaaLkP
import Derived.Shelf.Spec.SlicesInsert
import Derived.Lib.AppendZerosOnto
import Derived.Laws.NewBlocks
namespace Go.Proofs.Ytgmjfmajdnoogaa
open Go.RowKit Go.Proofs

theorem Rep.many_drop {α : Type} {R : Rep α} {w : World} : ∀ {ys : List α} {cells : List Value} (i : Nat), R.many w cells ys → i ≤ ys.length → R.many w (cells.drop (i * R.size)) (ys.drop i)
  | _, _, 0, h, _ => by simpa using h
  | [], _, i + 1, _, h => by simp at h
  | y :: ys, _, i + 1, ⟨ds, rest, e, h1, h2⟩, h => by
    subst e
    have e1 : (i + 1) * R.size = ds.length + i * R.size := by rw [R.len h1, Nat.add_mul]; omega
    rw [e1, List.drop_length_add_append, List.drop_succ_cons]
    exact Rep.many_drop i h2 (by simpa using h)

/-- 'copy', the target in a row that is known whole, elements of k cells. -/
theorem run_copy_rowK {P : Program} (w : World) (dT sT ty elem : TypeId) (k g o dLen dCap : Nat) (a : Addr) (sLen sCap : Nat) (cur : Array Value) (t : TypeId) (cs : List Value)
    (hu : P.underlying dT = some (.slice elem)) (hs : (P.info? elem).map (·.size) = some k) (hg : w.heap[g]? = some (.cells cur t (0, 0))) (hn : cs.length = Nat.min sLen dLen * k)
    (hsrc : ∀ j v, cs[j]? = some v → w.cell? (a.add j) = some v) (hfit : o + cs.length ≤ cur.size) (h1 : ∀ v ∈ cs, v.oneCell' = true) :
    (Builtin.copy_ #[dT, sT] ty #[.slice (some ⟨g, o, none⟩) dLen dCap, .slice (some a) sLen sCap]).run P w =
      .ok (goInt (Nat.min sLen dLen)) (w.setRow g (cur.toList.take o ++ cs ++ cur.toList.drop (o + cs.length)).toArray) := by
  have hl := run_loadCells_list (P := P) w a cs hsrc
  have hst := run_storeCells_at P g o t cs 0 cur w hg (by simpa using hfit) h1
  cases hq : P.info? elem with
  | none => simp [hq] at hs
  | some i =>
    have hi : i.size = k := by simpa [hq] using hs
    simp [Builtin.copy_, run_underlying hu, Builtin.lenOf, Builtin.firstCells, sizeOf, typeInfo, hq, hi, ← hn, hl, hst]

/-- Two cells put in ahead of what stands from a place on. -/
theorem ins_row {L cs R1 R2 : List Value} {n c i : Nat} {u1 u2 : Value} (hL : L.length = c * 2) (hcs : L.take (n * 2) = cs) (hi : i < n) (hr : n + 1 ≤ c)
    (e1 : R1 = L.take ((i + 1) * 2) ++ cs.drop (i * 2) ++ L.drop ((i + 1) * 2 + (cs.drop (i * 2)).length)) (e2 : R2 = R1.take (i * 2) ++ [u1, u2] ++ R1.drop (i * 2 + 2)) :
    R2.length = c * 2 ∧ R2.take ((n + 1) * 2) = cs.take (i * 2) ++ [u1, u2] ++ cs.drop (i * 2) := by
  have hcl : cs.length = n * 2 := by rw [← hcs, List.length_take, hL]; omega
  obtain ⟨P, hP⟩ : ∃ P, P = cs.take (i * 2) := ⟨_, rfl⟩
  obtain ⟨Q, hQ⟩ : ∃ Q, Q = cs.drop (i * 2) := ⟨_, rfl⟩
  obtain ⟨T, hT⟩ : ∃ T, T = L.drop (n * 2) := ⟨_, rfl⟩
  have lP : P.length = i * 2 := by rw [hP, List.length_take, hcl]; omega
  have lQ : Q.length = n * 2 - i * 2 := by rw [hQ, List.length_drop, hcl]
  have lT : T.length = c * 2 - n * 2 := by rw [hT, List.length_drop, hL]
  have hLe : L = P ++ (Q ++ T) := by rw [hP, hQ, hT, ← List.append_assoc, List.take_append_drop, ← hcs, List.take_append_drop]
  rw [← hQ] at e1
  rw [← hP, ← hQ]
  have t1 : L.take ((i + 1) * 2) = P ++ Q.take 2 := by
    rw [hLe, List.take_append, List.take_of_length_le (by omega), List.take_append, show (i + 1) * 2 - P.length = 2 by omega, show 2 - Q.length = 0 by omega, List.take_zero, List.append_nil]
  have t2 : L.drop ((i + 1) * 2 + Q.length) = T.drop 2 := by
    rw [hLe, List.drop_append, List.drop_eq_nil_of_le (by omega), List.nil_append, List.drop_append, List.drop_eq_nil_of_le (by omega), List.nil_append]
    congr 1
    omega
  have q2 : (Q.take 2).length = 2 := by rw [List.length_take]; omega
  rw [t1, t2, List.append_assoc, List.append_assoc] at e1
  have t3 : R1.take (i * 2) = P := by rw [e1, List.take_append, List.take_of_length_le (by omega), show i * 2 - P.length = 0 by omega, List.take_zero, List.append_nil]
  have t4 : R1.drop (i * 2 + 2) = Q ++ T.drop 2 := by
    rw [e1, List.drop_append, List.drop_eq_nil_of_le (by omega), List.nil_append, List.drop_append, List.drop_eq_nil_of_le (by omega), List.nil_append, show i * 2 + 2 - P.length - (Q.take 2).length = 0 by omega, List.drop_zero]
  rw [t3, t4] at e2
  refine ⟨?_, ?_⟩
  · rw [e2]; simp only [List.length_append, List.length_cons, List.length_nil, List.length_drop]; omega
  · rw [e2, ← List.append_assoc, List.take_append, List.take_of_length_le (by simp only [List.length_append, List.length_cons, List.length_nil]; omega),
      show (n + 1) * 2 - (P ++ [u1, u2] ++ Q).length = 0 by simp only [List.length_append, List.length_cons, List.length_nil]; omega, List.take_zero, List.append_nil]

theorem sizeW : (Try.prog.info? 33).map (·.size) = some 2 := by kernel_rfl
theorem zofW (w : World) : (Go.sizeOf 33).run Try.prog w = .ok 2 w := by kernel_rfl

set_option maxHeartbeats 2000000 in
set_option maxRecDepth 100000 in
/-- There is room, ahead of the end: in place. -/
theorem insertW_room (g n c i vb : Nat) (cur : Array Value) (cs : List Value) (u1 u2 : Value) (w : World) (hi : i < n) (hroom : n + 1 ≤ c) (hn : n ≤ 1000000) (hc : c ≤ 9223372036854775807) (hvb : vb ≠ g)
    (hg : w.heap[g]? = some (.cells cur 33 (0, 0))) (hsz : cur.size = c * 2) (hcs : cur.toList.take (n * 2) = cs) (h1c : ∀ v ∈ cs, v.oneCell' = true) (h1u : u1.oneCell' = true) (h2u : u2.oneCell' = true)
    (hv : w.heap[vb]? = some (.cells #[u1, u2] 33 (0, 0))) :
    Calls Try.prog 52 #[.slice (some ⟨g, 0, none⟩) n c, .int .i64 i, .slice (some ⟨vb, 0, none⟩) 1 1] w fun e w' =>
      e = .returned (.slice (some ⟨g, 0, none⟩) (n + 1) c) ∧ ∃ R2 : List Value, w' = w.drew.setRow g R2.toArray ∧ R2.length = c * 2 ∧ R2.take ((n + 1) * 2) = cs.take (i * 2) ++ [u1, u2] ++ cs.drop (i * 2) := by
  have hgc : ∀ j v, cur.toList[j]? = some v → w.cell? ⟨g, j, none⟩ = some v := fun j v hj => by
    simp only [World.cell?, hg]
    rwa [Array.getElem?_toList] at hj
  have hcl : cs.length = n * 2 := by rw [← hcs, List.length_take, Array.length_toList, hsz]; omega
  have hov : ∀ lb cb, (callFunc 58 #[.slice (some ⟨vb, 0, none⟩) 1 1, .slice (some ⟨g, (i + 1) * 2, none⟩) lb cb]).run Try.prog w = .ok (.value (.bool false)) w := fun lb cb => by
    rw [run_callFunc_extern Try.func58 (by kernel_rfl) (by kernel_rfl) (by kernel_rfl) (e := Extern.SlicesOverlaps.overlaps #[23, 23] #[4]) (by kernel_rfl),
      Lib.run_overlaps_apart w 23 4 33 Try.underlying23 2 zofW ⟨vb, 0, none⟩ ⟨g, (i + 1) * 2, none⟩ 1 1 lb cb hvb 33 33 2 cur.size (by simp [World.shape?, hv]) (by simp [World.shape?, hg]) (by omega) (by simp [World.frozen?, hv]) (by simp [World.frozen?, hv])]
    rfl
  have hdl : (cs.drop (i * 2)).length = (n - i) * 2 := by rw [List.length_drop, hcl, Nat.sub_mul]
  have hcsat : ∀ j v, cs[j]? = some v → w.cell? ⟨g, j, none⟩ = some v := fun j v hj => hgc j v (by rw [← hcs, List.getElem?_take] at hj; split at hj; exact hj; cases hj)
  obtain ⟨R1, hR1⟩ : ∃ R1 : List Value, R1 = cur.toList.take ((i + 1) * 2) ++ cs.drop (i * 2) ++ cur.toList.drop ((i + 1) * 2 + (cs.drop (i * 2)).length) := ⟨_, rfl⟩
  have hl1 : R1.length = c * 2 := by rw [hR1]; simp only [List.length_append, List.length_take, List.length_drop, Array.length_toList, hsz, hcl]; omega
  have hcp1 : ∀ ty dc sc, (Builtin.copy_ #[23, 23] ty #[.slice (some ⟨g, (i + 1) * 2, none⟩) (n - i) dc, .slice (some ⟨g, i * 2, none⟩) (n + 1 - i) sc]).run Try.prog w.drew = .ok (goInt (Nat.min (n + 1 - i) (n - i))) (w.drew.setRow g R1.toArray) := fun ty dc sc => by
    rw [hR1]
    exact run_copy_rowK w.drew _ _ ty 33 2 g ((i + 1) * 2) (n - i) dc ⟨g, i * 2, none⟩ (n + 1 - i) sc cur 33 (cs.drop (i * 2)) Try.underlying23 sizeW hg (by rw [hdl]; simp only [Nat.min_def]; split <;> omega)
      (fun j v hj => by rw [Addr.add_lit]; exact hcsat (i * 2 + j) v (by rwa [List.getElem?_drop] at hj)) (by rw [hdl, hsz]; omega) (fun v hv => h1c v (List.mem_of_mem_drop hv))
  have hg1 : (w.drew.setRow g R1.toArray).heap[g]? = some (.cells R1.toArray 33 (0, 0)) := setRow_heap w.drew g cur _ _ _ hg
  obtain ⟨R2, hR2⟩ : ∃ R2 : List Value, R2 = R1.take (i * 2) ++ [u1, u2] ++ R1.drop (i * 2 + 2) := ⟨_, rfl⟩
  have hcp2 : ∀ ty dc, (Builtin.copy_ #[23, 23] ty #[.slice (some ⟨g, i * 2, none⟩) (n + 1 - i) dc, .slice (some ⟨vb, 0, none⟩) 1 1]).run Try.prog (w.drew.setRow g R1.toArray) = .ok (goInt (Nat.min 1 (n + 1 - i))) ((w.drew.setRow g R1.toArray).setRow g R2.toArray) := fun ty dc => by
    rw [hR2]
    have h := run_copy_rowK (P := Try.prog) (w.drew.setRow g R1.toArray) 23 23 ty 33 2 g (i * 2) (n + 1 - i) dc ⟨vb, 0, none⟩ 1 1 R1.toArray 33 [u1, u2] Try.underlying23 sizeW hg1 (by simp only [Nat.min_def]; split <;> simp; omega)
      (fun j v hj => by
        rw [Addr.add_lit, Nat.zero_add]
        have h2 : (w.drew.setRow g R1.toArray).heap[vb]? = some (.cells #[u1, u2] 33 (0, 0)) := (setRow_other w.drew g vb R1.toArray (Ne.symm (Ne.symm hvb))).trans hv
        simp only [World.cell?, h2]
        match j, hj with
        | 0, hj => simpa using hj
        | 1, hj => simpa using hj) (by simp [hl1]; omega) (by simp [h1u, h2u])
    simpa using h
  have hw1 : IntKind.i64.wrap ((i : Int) + 1) = (i : Int) + 1 := by rw [IntKind.wrap_i64]; omega
  have hw2 : IntKind.i64.wrap ((n : Int) + 1) = (n : Int) + 1 := by rw [IntKind.wrap_i64]; omega
  have hb0 : ¬ ((i : Int) = (n : Int)) := by omega
  have hb1 : (0 : Int) ≤ (i : Int) + 1 := by omega
  have htn : ((i : Int) + 1).toNat = i + 1 := by omega
  have hb2 : ¬ (c = i + 1) := by omega
  have hb3 : (i : Int) ≤ (n : Int) + 1 := by omega
  have hb4 : ¬ (c = i) := by omega
  have hb6 : i ≤ n := by omega
  have hb5 : ¬ ((c : Int) < (n : Int) + 1) := by omega
  have HR := Lib.hid (And.intro hR1 hR2)
  clear hR1 hR2 hgc hcsat hg1
  go_enter Try.func52, Try.ntmps52
  go_wp2_with (simp only [hov])
  go_region_law (refine step_copy_runI rfl _ _ 23 23 rfl _ _ (by simp [Act.eval, Act.put]) (by simp [Act.eval, Act.put]) (hcp1 _ _ _) ?_)
  go_wp2_with (at_builtin; refine wpList_copy_runI _ rfl _ _ 23 23 rfl _ _ rfl rfl (hcp2 _ _) ?_)
  go_ret
  have h := ins_row (L := cur.toList) (c := c) (by simpa using hsz) hcs hi hroom HR.out.1 HR.out.2
  exact ⟨rfl, R2, setRow_setRow _ _ _ _, h.1, h.2⟩
end Go.Proofs.Ytgmjfmajdnoogaa
