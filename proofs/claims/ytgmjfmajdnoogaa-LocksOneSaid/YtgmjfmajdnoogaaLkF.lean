/-
  Walks of slices.DeleteFunc at the types of package locks. Conditions: as each theorem says.
-/
import Derived.Test.YtgmjfmajdnoogaaLkE
import Derived.Test.YtgmjfmajdnoogaaLibB
namespace Go.Proofs.Ytgmjfmajdnoogaa
open Go.RowKit
theorem idxOf_at {α : Type} {p : α → Bool} : ∀ {xs : List α} {k : Nat}, idxOf p xs = k → (hk : k < xs.length) → p xs[k] = true
  | [], _, _, hk => by simp at hk
  | x :: xs, k, h, hk => by
    simp only [idxOf] at h
    split at h
    · rename_i h0
      have : k = 0 := by omega
      subst this
      exact h0
    · split at h
      · omega
      · obtain ⟨m, rfl⟩ : ∃ m, k = m + 1 := ⟨k - 1, by omega⟩
        have := idxOf_at (p := p) (xs := xs) (k := m) (by omega) (by simpa using hk)
        simpa using this
theorem idxOf_ne {α : Type} {p : α → Bool} : ∀ {xs : List α} {x : α}, x ∈ xs → p x = true → idxOf p xs ≠ -1
  | [], _, h, _ => by simp at h
  | y :: ys, x, h, hp => by
    simp only [idxOf]
    split
    · omega
    · rename_i h0
      have hx : x ∈ ys := by
        rcases List.mem_cons.1 h with rfl | h
        · exact absurd hp h0
        · exact h
      have h1 := idxOf_ne hx hp
      have h2 := idxOf_ge (p := p) (xs := ys)
      rw [if_neg (by omega)]
      omega
theorem idxOf_take {α : Type} {p : α → Bool} : ∀ {xs : List α} {k : Nat}, idxOf p xs = k → ((xs.take k).filter fun x => !p x) = xs.take k
  | [], k, _ => by simp
  | x :: xs, 0, _ => by simp
  | x :: xs, k + 1, h => by
    simp only [idxOf] at h
    split at h
    · omega
    · rename_i h0
      split at h
      · omega
      · rw [List.take_succ_cons, List.filter_cons, if_pos (by simpa using h0), idxOf_take (by omega)]

set_option maxHeartbeats 1000000 in
theorem deleteFuncW_any (p : Wt → Bool) (g : Nat) (lb : Array Value) (eg : ∀ args w, (callFunc g args).run Try.prog w = .ok (.enter g args) w) (B blk n cap : Nat) (xs : List (Wt)) (w : World) (ho : Own wtR 33 B w (.slice (some ⟨blk, 0, none⟩) n cap) xs)
    (hp : ∀ W x, w.grownBy W (some blk) → x ∈ xs → Calls Try.prog g (#[.agg #[.int .i64 x.task, .int .i64 x.lock]] ++ lb) W fun e w' => e = .returned (.bool (p x)) ∧ Below W.heap.size W w') :
    Calls Try.prog 47 #[.slice (some ⟨blk, 0, none⟩) n cap, .func (.func g) #[] lb] w fun e w' => ∃ v', e = .returned v' ∧ Own wtR 33 B w' v' (xs.filter fun x => !p x) ∧ w.grownBy w' (some blk) := by
  obtain ⟨hB, hblk, rfl⟩ := ho.block
  have hcap : xs.length ≤ cap := by obtain ⟨A, c, he, h1, _⟩ := ho.sl; injection he with _ _ e3; subst e3; exact h1
  have hcm : cap ≤ 9223372036854775807 := by obtain ⟨A, c, he, _, h1, _⟩ := ho.sl; injection he with _ _ e3; subst e3; exact h1
  have hlen : xs.length ≤ 9223372036854775807 := by omega
  have gb : ∀ W, Below w.heap.size w W → w.grownBy W (some blk) := fun W h => ⟨h.os, h.tape, h.output, h.size, fun i hi _ => h.block i hi⟩
  have CI := Lib.hid (indexFuncW_any p g lb eg _ xs w ho.sl fun W x hb hx => hp W x (gb W hb) hx)
  have hr := idxOf_ge (p := p) (xs := xs)
  rcases Int.lt_or_le (idxOf p xs) 0 with hneg | hpos
  · have hm : idxOf p xs = -1 := by omega
    have hall := Lib.hid (show (xs.filter fun x => !p x) = xs from List.filter_eq_self.2 fun x hx => by
      cases hq : p x with
      | false => rfl
      | true => exact absurd hm (idxOf_ne hx hq))
    rw [hm] at CI
    have HO := Lib.hid ho
    clear hm hneg hr eg ho hp
    go_enter Try.func47, Try.ntmps47
    go_wp2_with (go_at_call 44; refine CI.out.mono ?_; rintro e w1 ⟨rfl, hb1⟩)
    go_ret
    exact ⟨_, rfl, by rw [hall.out]; exact HO.out.up hb1, gb _ hb1⟩
  · obtain ⟨i0, hi0⟩ : ∃ i0 : Nat, idxOf p xs = i0 := ⟨(idxOf p xs).toNat, by omega⟩
    have hlt0 : i0 < xs.length := by omega
    have hstart := Lib.hid (idxOf_take (p := p) (xs := xs) hi0)
    have ht0 := Lib.hid (idxOf_at (p := p) (xs := xs) hi0)
    rw [hi0] at CI
    have HO := Lib.hid ho
    have HP := Lib.hid hp
    have GB := Lib.hid gb
    have hc0 : ((i0 : Int) == -1) = false := by simp
    clear hi0 hpos hr ho hp gb
    go_enter Try.func47, Try.ntmps47
    go_wp2_with (go_at_call 44; refine CI.out.mono ?_; rintro e w1 ⟨rfl, hb1⟩)
    go_loopw [5, 6] (fun i j wr => ∃ I J ys, I < J ∧ J ≤ xs.length ∧ i = .int .i64 (I : Nat) ∧ j = .int .i64 (J : Nat) ∧ Hid (ys.length = xs.length) ∧ Hid (ys.take I = (xs.take J).filter fun x => !p x) ∧ Hid (ys.drop J = xs.drop J) ∧ Hid (Own wtR 33 B wr (.slice (some ⟨blk, 0, none⟩) xs.length cap) ys) ∧ Hid (w.grownBy wr (some blk))) (fun _ j _ => xs.length - (intOf j).toNat)
    case atStart =>
      refine ⟨i0, i0 + 1, xs, by omega, by omega, rfl, by go_num, rfl, ?_, rfl, HO.out.up hb1, GB.out _ hb1⟩
      show xs.take i0 = _
      have e2 : xs.take (i0 + 1) = xs.take i0 ++ [xs[i0]] := by rw [List.take_succ_eq_append_getElem hlt0]
      rw [e2, List.filter_append, hstart.out]
      simp [ht0.out hlt0]
    case round =>
      obtain ⟨I, J, ys, hIJ, hJ, rfl, rfl, hyl, htake, hdrop, hown, hgr⟩ := hrel
      by_cases hlt : J < xs.length
      · have hyJ : J < ys.length := by rw [hyl.out]; exact hlt
        have hIy : I < ys.length := by omega
        have hxJ := Lib.hid (show ys[J] = xs[J] by
          have h1 := List.getElem_drop (xs := ys) (i := J) (j := 0) (h := by rw [List.length_drop]; omega)
          have h2 := List.getElem_drop (xs := xs) (i := J) (j := 0) (h := by rw [List.length_drop]; omega)
          simp only [Nat.add_zero] at h1 h2
          rw [← h1, ← h2]
          have := hdrop.out
          simp only [this])
        obtain ⟨csJ, hisJ, hcell, hfz⟩ := hown.out.cell_ hyJ
        have hcs : csJ = [.int .i64 xs[J].task, .int .i64 xs[J].lock] := by have := hisJ; rw [hxJ.out] at this; exact this.1
        subst hcs
        have c0 := hcell 0 _ rfl
        have c1 := hcell 1 _ rfl
        simp only [Nat.add_zero, wtR] at c0 c1
        have hisJ' := Lib.hid hisJ
        have hcall := HP.out (wr.alloc (.cells #[.int .i64 xs[J].task, .int .i64 xs[J].lock] 33)) xs[J] ⟨hgr.out.os, hgr.out.tape, hgr.out.output, Nat.le_trans hgr.out.size (by simp), fun i hi hne => (Below.heap_alloc wr _ i (Nat.lt_of_lt_of_le hi hgr.out.size)).trans (hgr.out.block i hi hne)⟩ (List.getElem_mem hlt)
        have hbw : blk < wr.heap.size := Nat.lt_of_lt_of_le hblk hgr.out.size
        clear hcell hisJ
        cases hq : p xs[J] with
        | true =>
          rw [hq] at hcall
          have HQ := Lib.hid hq
          have C := Lib.hid hcall
          clear hq hcall
          go_wp2_with (refine C.out.mono ?_; rintro e w2 ⟨rfl, hb2⟩)
          go_roundw
          case rel =>
            refine ⟨I, J + 1, ys, by omega, by omega, rfl, by go_num, hyl, ?_, ?_, (hown.out.up (ba _ _)).up hb2, ?_⟩
            · show ys.take I = _
              have e2 : xs.take (J + 1) = xs.take J ++ [xs[J]] := by rw [List.take_succ_eq_append_getElem hlt]
              rw [e2, List.filter_append, htake.out]
              simp [HQ.out]
            · show ys.drop (J + 1) = xs.drop (J + 1)
              rw [← List.drop_drop, ← List.drop_drop, hdrop.out]
            · exact ⟨hb2.os.trans hgr.out.os, hb2.tape.trans hgr.out.tape, hb2.output.trans hgr.out.output, Nat.le_trans hgr.out.size (Nat.le_trans (ba wr _).size hb2.size), fun i hi hne => (hb2.block i (by have := hgr.out.size; simp; omega)).trans ((Below.heap_alloc wr _ i (Nat.lt_of_lt_of_le hi hgr.out.size)).trans (hgr.out.block i hi hne))⟩
          case measure => simp [intOf]; omega
        | false =>
          rw [hq] at hcall
          have HQ := Lib.hid hq
          have C := Lib.hid hcall
          clear hq hcall
          obtain ⟨csI, hisI, hcellI, _⟩ := hown.out.cell_ hIy
          have hcI : ∀ j, j < 2 → ∃ u, wr.cell? ⟨blk, I * wtR.size + j, none⟩ = some u := fun j hj => ⟨_, hcellI j _ (List.getElem?_eq_getElem (by rw [wtR.len hisI]; exact hj))⟩
          obtain ⟨u0, d0⟩ := hcI 0 (by omega)
          obtain ⟨u1, d1⟩ := hcI 1 (by omega)
          simp only [Nat.add_zero, wtR] at d0 d1
          clear hcI hisI hcellI
          go_wp2_with (refine C.out.mono ?_; rintro e w2 ⟨rfl, hb2⟩; have hbb : Below wr.heap.size wr w2 := (ba _ _).trans (hb2.mono (by simp)); have b0 := box_cell hb2 0 _ rfl; have e0 := cell_later hbb d0; have f0 := free_later hbb d0 (hfz _); have b1 := box_cell hb2 1 _ rfl; have e1 := cell_later hbb d1; have f1 := free_later hbb d1 (hfz _))
          go_roundw
          case rel =>
            have hput := (((hown.out.up (ba _ _)).up hb2).put (k := I) hIy (wtR_flat _ _ _ _ hisJ'.out) fun _ _ _ _ h => wtR_flat _ _ _ _ h)
            refine ⟨I + 1, J + 1, ys.set I xs[J], by omega, by omega, by go_num, by go_num, ?_, ?_, ?_, (by have h1 := hput.1; rw [hxJ.out] at h1; exact h1), ?_⟩
            · show (ys.set I xs[J]).length = xs.length
              rw [List.length_set, hyl.out]
            · show (ys.set I xs[J]).take (I + 1) = _
              have e2 : xs.take (J + 1) = xs.take J ++ [xs[J]] := by rw [List.take_succ_eq_append_getElem hlt]
              rw [e2, List.filter_append, ← htake.out, List.take_succ_eq_append_getElem (by rw [List.length_set]; exact hIy), List.getElem_set_self, List.take_set_of_le (Nat.le_refl _)]
              simp [HQ.out]
            · show (ys.set I xs[J]).drop (J + 1) = xs.drop (J + 1)
              rw [List.drop_set_of_lt (by omega), ← List.drop_drop, ← List.drop_drop, hdrop.out]
            · have h1 : w.grownBy w2 (some blk) := ⟨hb2.os.trans hgr.out.os, hb2.tape.trans hgr.out.tape, hb2.output.trans hgr.out.output, Nat.le_trans hgr.out.size (Nat.le_trans (ba wr _).size hb2.size), fun i hi hne => (hb2.block i (by have := hgr.out.size; simp; omega)).trans ((Below.heap_alloc wr _ i (Nat.lt_of_lt_of_le hi hgr.out.size)).trans (hgr.out.block i hi hne))⟩
              exact grownBy_trans h1 (by have := hput.2; exact this)
          case measure => simp [intOf]; omega
      · have hJe : J = xs.length := by omega
        have HJ := Lib.hid hJe
        have hIl : I < xs.length := by omega
        have hIc : I < cap := by omega
        clear hJe
        go_wp2_with fail
        obtain ⟨w3, hclr, hown3, hgr3⟩ := run_clear_own (P := Try.prog) (ty := 0) (o := I * 2) (m := xs.length - I) (c := cap - I) Try.underlying23 (fun w => by kernel_rfl) (z := .agg #[.int .i64 0, .int .i64 0]) rfl (by simp [Value.oneCell', Value.cells]) hown.out (by rw [hyl.out]; exact hIl) (fun _ _ _ _ h => wtR_flat _ _ _ _ h) rfl rfl
        rw [hclr]
        go_wp2_with fail
        go_ret
        refine ⟨_, rfl, ?_, grownBy_trans hgr.out hgr3⟩
        have hf := htake.out
        rw [HJ.out, List.take_length] at hf
        rw [← hf]
        exact hown3

set_option maxHeartbeats 400000 in
theorem deleteFuncW_own (p : Wt → Bool) (g : Nat) (lb : Array Value) (eg : ∀ args w, (callFunc g args).run Try.prog w = .ok (.enter g args) w) (B : Nat) (v : Value) (xs : List (Wt)) (w : World) (ho : Own wtR 33 B w v xs)
    (hp : ∀ W x, w.grownBy W v.ownBlock → x ∈ xs → Calls Try.prog g (#[.agg #[.int .i64 x.task, .int .i64 x.lock]] ++ lb) W fun e w' => e = .returned (.bool (p x)) ∧ Below W.heap.size W w') :
    Calls Try.prog 47 #[v, .func (.func g) #[] lb] w fun e w' => ∃ v', e = .returned v' ∧ Own wtR 33 B w' v' (xs.filter fun x => !p x) ∧ w.grownBy w' v.ownBlock := by
  have ho' := ho
  obtain ⟨cells, ho, hm⟩ := ho
  rcases ho.2 with ⟨rfl, h0⟩ | ⟨blk, cap, cur, rfl, _⟩
  · have hx : xs = [] := List.eq_nil_of_length_eq_zero h0
    subst hx
    have CI := Lib.hid (indexFuncW_any p g lb eg _ [] w (Sl.none wtR w) fun W x hb hx => by simp at hx)
    clear ho' ho hm hp eg
    go_enter Try.func47, Try.ntmps47
    go_wp2_with (go_at_call 44; refine CI.out.mono ?_; rintro e w1 ⟨rfl, hb1⟩)
    go_ret
    exact ⟨_, rfl, Own.nil _ _ _ _, ⟨hb1.os, hb1.tape, hb1.output, hb1.size, fun i hi _ => hb1.block i hi⟩⟩
  · exact deleteFuncW_any p g lb eg B blk _ cap xs w ho' hp
end Go.Proofs.Ytgmjfmajdnoogaa
