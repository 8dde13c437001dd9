/-
  Walks of slices.IndexFunc, slices.ContainsFunc, slices.Index, slices.Contains at numbers and at sections. Conditions: as each theorem says.
-/
import Derived.Test.YtcomfhigbjkoeaaGreatDoorVnA
namespace Go.Proofs.YtcomfhigbjkoeaaGreatDoor
open Go.RowKit

/-- The first place at which p holds, or -1. -/
def idxOf {α : Type} (p : α → Bool) : List α → Int
  | [] => -1
  | x :: xs => if p x then 0 else (if idxOf p xs < 0 then -1 else idxOf p xs + 1)

theorem idxOf_hit {α : Type} {p : α → Bool} : ∀ {xs : List α} {k : Nat} (hk : k < xs.length), p xs[k] = true → (∀ j, (hj : j < k) → p (xs[j]'(by omega)) = false) → idxOf p xs = k
  | [], k, hk, _, _ => by simp at hk
  | x :: xs, 0, hk, h, _ => by simp at h; simp [idxOf, h]
  | x :: xs, k + 1, hk, h, hj => by
    have h0 : p x = false := hj 0 (by omega)
    have h1 : idxOf p xs = k := idxOf_hit (by simpa using hk) (by simpa using h) fun j hjk => by
      have := hj (j + 1) (by omega)
      simpa using this
    simp only [idxOf, h0, h1]
    rw [if_neg (by decide), if_neg (by omega)]
    rfl

theorem idxOf_miss {α : Type} {p : α → Bool} : ∀ {xs : List α}, (∀ x, x ∈ xs → p x = false) → idxOf p xs = -1
  | [], _ => rfl
  | x :: xs, h => by
    have h0 : p x = false := h x (by simp)
    have h1 : idxOf p xs = -1 := idxOf_miss fun y hy => h y (by simp [hy])
    simp [idxOf, h0, h1]

theorem idxOf_any {α : Type} {p : α → Bool} : ∀ {xs : List α}, decide (0 ≤ idxOf p xs) = xs.any p
  | [] => rfl
  | x :: xs => by
    have ih := idxOf_any (p := p) (xs := xs)
    by_cases h0 : p x = true
    · simp [idxOf, h0]
    · simp only [Bool.not_eq_true] at h0
      simp only [idxOf, h0, List.any_cons, Bool.false_or, ← ih]
      split
      · simp_all
      · split
        · simp; omega
        · simp; omega

theorem idxOf_ge {α : Type} {p : α → Bool} : ∀ {xs : List α}, -1 ≤ idxOf p xs ∧ idxOf p xs < xs.length
  | [] => by simp [idxOf]
  | x :: xs => by
    have ih := idxOf_ge (p := p) (xs := xs)
    simp only [idxOf, List.length_cons]
    split
    · omega
    · split <;> omega

theorem enters_fn {P : Program} {f : FuncId} {fn : Func} {c : Code} (hf : P.funcs[f]? = some fn) (hname : (fn.name == "runtime.NumGoroutine") = false) (hb : fn.body = some c) (args : Array Value) (w : World) : (callFunc f args).run P w = .ok (.enter f args) w := by
  have h1 : fn.name ≠ "runtime.NumGoroutine" := by simpa using hname
  simp [callFunc, hf, h1, hb, mark]


set_option maxHeartbeats 400000 in
theorem indexFuncI_any (p : Int → Bool) (g : Nat) (lb : Array Value) (eg : ∀ args w, (callFunc g args).run Tryz.prog w = .ok (.enter g args) w) (v : Value) (xs : List (Int)) (w : World) (hs : Sl intR w v xs)
    (hp : ∀ W x, Below w.heap.size w W → x ∈ xs → Calls Tryz.prog g (#[.int .i64 x] ++ lb) W fun e w' => e = .returned (.bool (p x)) ∧ Below W.heap.size W w') :
    Calls Tryz.prog 86 #[v, .func (.func g) #[] lb] w fun e w' => e = .returned (.int .i64 (idxOf p xs)) ∧ Below w.heap.size w w' := by
  obtain ⟨A, c, rfl, _, hm, hs⟩ := hs.open
  have hlen : xs.length ≤ 9223372036854775807 := by omega
  go_enter Tryz.func86, Tryz.ntmps86
  go_wp2
  go_loopw [8] (fun i wr => ∃ k : Nat, k ≤ xs.length ∧ i = .int .i64 k ∧ Below w.heap.size w wr ∧ Hid (∀ j, (hj : j < k) → (hj' : j < xs.length) → p xs[j] = false)) (fun i _ => xs.length - (intOf i).toNat)
  case atStart => exact ⟨0, by omega, rfl, Below.refl _ _, fun j hj => by omega⟩
  case round =>
    obtain ⟨k, hk, rfl, hb, hall⟩ := hrel
    by_cases hlt : k < xs.length
    · obtain ⟨b, off, rfl, hbl, hcell, _⟩ := (hs.up hb).atI hlt
      have hcall := hp wr xs[k] hb (List.getElem_mem hlt)
      have HB := Lib.hid hb
      clear hb hs
      cases hq : p xs[k] with
      | true =>
        rw [hq] at hcall
        have HQ := Lib.hid hq
        have C := Lib.hid hcall
        clear hq hcall hp
        go_wp2_with (refine C.out.mono ?_; rintro e w' ⟨rfl, hb1⟩)
        go_ret
        exact ⟨ret_int (idxOf_hit hlt HQ.out fun j hj => hall.out j hj (by omega)).symm, HB.out.trans (hb1.mono HB.out.size)⟩
      | false =>
        rw [hq] at hcall
        have HQ := Lib.hid hq
        have C := Lib.hid hcall
        clear hq hcall hp
        go_wp2_with (refine C.out.mono ?_; rintro e w' ⟨rfl, hb1⟩)
        go_roundw
        case rel =>
          refine ⟨k + 1, by omega, by go_num, HB.out.trans (hb1.mono HB.out.size), fun j hj hj' => ?_⟩
          by_cases e : j = k
          · subst e; exact HQ.out
          · exact hall.out j (by omega) hj'
        case measure => simp [intOf]; omega
    · have HB := Lib.hid hb
      clear hb hs hp
      go_wp2
      go_ret
      refine ⟨ret_int (idxOf_miss fun x hx => ?_).symm, HB.out⟩
      obtain ⟨j, hj, rfl⟩ := List.getElem_of_mem hx
      exact hall.out j (by omega) hj

set_option maxHeartbeats 400000 in
theorem indexFuncS_any (p : Sec → Bool) (g : Nat) (lb : Array Value) (eg : ∀ args w, (callFunc g args).run Tryz.prog w = .ok (.enter g args) w) (v : Value) (xs : List (Sec)) (w : World) (hs : Sl secR w v xs)
    (hp : ∀ W x A c, Below w.heap.size w W → x ∈ xs → Sl intR W (.slice A x.rows.length c) x.rows → Calls Tryz.prog g (#[.agg #[.string x.name, .slice A x.rows.length c, .int .i64 x.queue]] ++ lb) W fun e w' => e = .returned (.bool (p x)) ∧ Below W.heap.size W w') :
    Calls Tryz.prog 85 #[v, .func (.func g) #[] lb] w fun e w' => e = .returned (.int .i64 (idxOf p xs)) ∧ Below w.heap.size w w' := by
  obtain ⟨A, c, rfl, _, hm, hs⟩ := hs.open
  have hlen : xs.length ≤ 9223372036854775807 := by omega
  go_enter Tryz.func85, Tryz.ntmps85
  go_wp2
  go_loopw [8] (fun i wr => ∃ k : Nat, k ≤ xs.length ∧ i = .int .i64 k ∧ Below w.heap.size w wr ∧ Hid (∀ j, (hj : j < k) → (hj' : j < xs.length) → p xs[j] = false)) (fun i _ => xs.length - (intOf i).toNat)
  case atStart => exact ⟨0, by omega, rfl, Below.refl _ _, fun j hj => by omega⟩
  case round =>
    obtain ⟨k, hk, rfl, hb, hall⟩ := hrel
    by_cases hlt : k < xs.length
    · obtain ⟨b, off, A', c', rfl, hbl, hc0, hc1, hc2, hin, _, _⟩ := (hs.up hb).atS hlt
      have hcall := hp wr xs[k] A' c' hb (List.getElem_mem hlt) hin
      clear hin
      have HB := Lib.hid hb
      clear hb hs
      cases hq : p xs[k] with
      | true =>
        rw [hq] at hcall
        have HQ := Lib.hid hq
        have C := Lib.hid hcall
        clear hq hcall hp
        go_wp2_with (refine C.out.mono ?_; rintro e w' ⟨rfl, hb1⟩)
        go_ret
        exact ⟨ret_int (idxOf_hit hlt HQ.out fun j hj => hall.out j hj (by omega)).symm, HB.out.trans (hb1.mono HB.out.size)⟩
      | false =>
        rw [hq] at hcall
        have HQ := Lib.hid hq
        have C := Lib.hid hcall
        clear hq hcall hp
        go_wp2_with (refine C.out.mono ?_; rintro e w' ⟨rfl, hb1⟩)
        go_roundw
        case rel =>
          refine ⟨k + 1, by omega, by go_num, HB.out.trans (hb1.mono HB.out.size), fun j hj hj' => ?_⟩
          by_cases e : j = k
          · subst e; exact HQ.out
          · exact hall.out j (by omega) hj'
        case measure => simp [intOf]; omega
    · have HB := Lib.hid hb
      clear hb hs hp
      go_wp2
      go_ret
      refine ⟨ret_int (idxOf_miss fun x hx => ?_).symm, HB.out⟩
      obtain ⟨j, hj, rfl⟩ := List.getElem_of_mem hx
      exact hall.out j (by omega) hj

set_option maxHeartbeats 400000 in
theorem containsFuncI_any (p : Int → Bool) (g : Nat) (lb : Array Value) (eg : ∀ args w, (callFunc g args).run Tryz.prog w = .ok (.enter g args) w) (v : Value) (xs : List (Int)) (w : World) (hs : Sl intR w v xs)
    (hp : ∀ W x, Below w.heap.size w W → x ∈ xs → Calls Tryz.prog g (#[.int .i64 x] ++ lb) W fun e w' => e = .returned (.bool (p x)) ∧ Below W.heap.size W w') :
    Calls Tryz.prog 78 #[v, .func (.func g) #[] lb] w fun e w' => e = .returned (.bool (xs.any p)) ∧ Below w.heap.size w w' := by
  have C := Lib.hid (indexFuncI_any p g lb eg v xs w hs hp)
  clear hp eg hs
  have h1 := Lib.hid (idxOf_any (p := p) (xs := xs))
  generalize idxOf p xs = r at C h1
  go_enter Tryz.func78, Tryz.ntmps78
  go_wp2_with (go_at_call 86; refine C.out.mono ?_; rintro e w' ⟨rfl, hb1⟩)
  go_ret
  exact ⟨ret_bool h1.out, hb1⟩

set_option maxHeartbeats 400000 in
theorem containsFuncS_any (p : Sec → Bool) (g : Nat) (lb : Array Value) (eg : ∀ args w, (callFunc g args).run Tryz.prog w = .ok (.enter g args) w) (v : Value) (xs : List (Sec)) (w : World) (hs : Sl secR w v xs)
    (hp : ∀ W x A c, Below w.heap.size w W → x ∈ xs → Sl intR W (.slice A x.rows.length c) x.rows → Calls Tryz.prog g (#[.agg #[.string x.name, .slice A x.rows.length c, .int .i64 x.queue]] ++ lb) W fun e w' => e = .returned (.bool (p x)) ∧ Below W.heap.size W w') :
    Calls Tryz.prog 76 #[v, .func (.func g) #[] lb] w fun e w' => e = .returned (.bool (xs.any p)) ∧ Below w.heap.size w w' := by
  have C := Lib.hid (indexFuncS_any p g lb eg v xs w hs hp)
  clear hp eg hs
  have h1 := Lib.hid (idxOf_any (p := p) (xs := xs))
  generalize idxOf p xs = r at C h1
  go_enter Tryz.func76, Tryz.ntmps76
  go_wp2_with (go_at_call 85; refine C.out.mono ?_; rintro e w' ⟨rfl, hb1⟩)
  go_ret
  exact ⟨ret_bool h1.out, hb1⟩

set_option maxHeartbeats 400000 in
theorem indexI_any (y : Int) (v : Value) (xs : List (Int)) (w : World) (hs : Sl intR w v xs) :
    Calls Tryz.prog 81 #[v, .int .i64 y] w fun e w' => e = .returned (.int .i64 (idxOf (fun x => y == x) xs)) ∧ w = w' := by
  obtain ⟨A, c, rfl, _, hm, hs⟩ := hs.open
  have hlen : xs.length ≤ 9223372036854775807 := by omega
  go_enter Tryz.func81, Tryz.ntmps81
  go_wp2
  go_loop [8] (fun i => ∃ k : Nat, k ≤ xs.length ∧ i = .int .i64 k ∧ Hid (∀ j, (hj : j < k) → (hj' : j < xs.length) → (y == xs[j]) = false)) (fun i => xs.length - (intOf i).toNat)
  case atStart => exact ⟨0, by omega, rfl, fun j hj => by omega⟩
  case round =>
    obtain ⟨k, hk, rfl, hall⟩ := hrel
    by_cases hlt : k < xs.length
    · obtain ⟨b, off, rfl, hbl, hcell, _⟩ := hs.atI hlt
      clear hs
      cases hq : (y == xs[k]) with
      | true =>
        go_wp2
        go_ret
        exact ⟨ret_int (idxOf_hit (p := fun x => y == x) hlt hq fun j hj => hall.out j hj (by omega)).symm, rfl⟩
      | false =>
        go_wp2
        go_round
        case rel =>
          refine ⟨k + 1, by omega, by go_num, fun j hj hj' => ?_⟩
          by_cases e : j = k
          · subst e; exact hq
          · exact hall.out j (by omega) hj'
        case measure => simp [intOf]; omega
    · clear hs
      go_wp2
      go_ret
      refine ⟨ret_int (idxOf_miss fun x hx => ?_).symm, rfl⟩
      obtain ⟨j, hj, rfl⟩ := List.getElem_of_mem hx
      exact hall.out j (by omega) hj

set_option maxHeartbeats 400000 in
theorem containsI_any (y : Int) (v : Value) (xs : List (Int)) (w : World) (hs : Sl intR w v xs) :
    Calls Tryz.prog 61 #[v, .int .i64 y] w fun e w' => e = .returned (.bool (xs.any fun x => y == x)) ∧ w = w' := by
  have C := Lib.hid (indexI_any y v xs w hs)
  clear hs
  have h1 := Lib.hid (idxOf_any (p := fun x => y == x) (xs := xs))
  generalize idxOf (fun x => y == x) xs = r at C h1
  go_enter Tryz.func61, Tryz.ntmps61
  go_wp2_with (go_at_call 81; refine C.out.mono ?_; rintro e w' ⟨rfl, rfl⟩)
  go_ret
  exact ⟨ret_bool h1.out, rfl⟩
end Go.Proofs.YtcomfhigbjkoeaaGreatDoor
