/-
  Walks of locks.clone and locks.Take. Conditions: as each theorem says.
-/
import Derived.Test.YtgmjfmajdnoogaaLkF
import Derived.Test.YtgmjfmajdnoogaaLkD
import Derived.Deep.RegionHeld3
namespace Go.Proofs.Ytgmjfmajdnoogaa
open Go.RowKit

set_option maxHeartbeats 400000 in
theorem clone1_any (x : Wt) (B : Nat) (t : Int) (w : World) (hc : w.cell? ⟨B, 0, none⟩ = some (.int .i64 t)) :
    Calls Try.prog 49 #[.agg #[.int .i64 x.task, .int .i64 x.lock], .pointer (some ⟨B, 0, none⟩)] w fun e w' => e = .returned (.bool (x.task == t)) ∧ Below w.heap.size w w' := by
  have hB : B < w.heap.size := World.block_lt_of_cell? _ _ hc
  go_enter Try.func49, Try.ntmps49
  go_wp2_with fail
  go_ret
  exact ⟨rfl, ba _ _⟩

def drop_ (t : Int) (l : List Wt) : List Wt := l.filter fun x => !(x.task == t)

set_option maxHeartbeats 1000000 in
theorem clone_any (v1 v2 : Value) (s : St) (t : Int) (w : World) (h1 : Sl intR w v1 s.hs) (h2 : Sl wtR w v2 s.ws) (z1 : s.hs.length ≤ 1000) (z2 : s.ws.length ≤ 1000) :
    Calls Try.prog 31 #[.agg #[v1, v2], .int .i64 t] w fun e w' => ∃ x1 x2, e = .returned (.agg #[x1, x2]) ∧ Own intR 3 w.heap.size w' x1 s.hs ∧ Own wtR 33 w.heap.size w' x2 (drop_ t s.ws) ∧ Below w.heap.size w w' := by
  have eg := enters_fn Try.func49 (by kernel_rfl) rfl
  have C1 := Lib.hid (fun W (hb : Below w.heap.size w W) => (cloneI_any v1 s.hs W (h1.up hb) (by omega)).mono fun _ _ h => ownf h)
  have C2 := Lib.hid (fun W (hb : Below w.heap.size w W) => (cloneW_any v2 s.ws W (h2.up hb) (by omega)).mono fun _ _ h => ownf h)
  have C3 := Lib.hid (fun W B v (hc : W.cell? ⟨w.heap.size + 1, 0, none⟩ = some (.int .i64 t)) (hB : w.heap.size + 1 < B) (ho : Own wtR 33 B W v s.ws) => (deleteFuncW_own (fun x => x.task == t) 49 #[.pointer (some ⟨w.heap.size + 1, 0, none⟩)] eg B v s.ws W ho
    fun W' x hg _ => clone1_any x _ t W' ((World.cell?_of_block (hg.block (w.heap.size + 1) (World.block_lt_of_cell? (a := ⟨w.heap.size + 1, 0, none⟩) _ hc) (fun e => by have := (ho.lt _ e.symm).1; omega))).trans hc)).mono fun _ _ h => ownf h)
  clear h1 h2 eg
  go_enter Try.func31, Try.ntmps31
  go_wp2_with fail
  refine at_world (fun W => Below w.heap.size w W ∧ W.heap.size = w.heap.size + 3 ∧ W.cell? ⟨w.heap.size, 0, none⟩ = some v1 ∧ W.cell? ⟨w.heap.size, 1, none⟩ = some v2 ∧ W.cell? ⟨w.heap.size + 1, 0, none⟩ = some (.int .i64 t) ∧
      W.cell? ⟨w.heap.size + 1 + 1, 0, none⟩ = some (.slice none 0 0) ∧ W.cell? ⟨w.heap.size + 1 + 1, 1, none⟩ = some (.slice none 0 0) ∧ W.frozen? ⟨w.heap.size + 1 + 1, 0, none⟩ = false ∧ W.frozen? ⟨w.heap.size + 1 + 1, 1, none⟩ = false)
    ⟨((ba _ _).alloc (by simp) _).alloc (by simp; omega) _, by simp, by go_simp, by go_simp, by go_simp, by go_simp, by go_simp, by go_simp, by go_simp⟩ fun W0 ⟨hb0, hz, k0, k1, kt, r0, r1, f0, f1⟩ => ?_
  have HB0 := Lib.hid hb0
  have HZ := Lib.hid hz
  clear hb0 hz
  go_region_held3 (fun W => W.cell? ⟨w.heap.size, 0, none⟩ = some v1 ∧ W.cell? ⟨w.heap.size, 1, none⟩ = some v2) (exact ⟨by first | assumption | go_simp, by first | assumption | go_simp⟩)
    (first
      | (go_at_call 46; refine (C1.out _ (bdd HB0.out)).mono ?_; rintro e w1 ⟨A1, d1, rfl, ho1, hb1⟩; have k0' := cell_later hb1 k0; have k1' := cell_later hb1 k1)
      | (go_at_call 48; refine (C2.out _ ((bdd HB0.out).trans (hb1.mono (bdd HB0.out).size))).mono ?_; rintro e w2 ⟨A2, d2, rfl, ho2, hb2⟩; have k0'' := cell_later hb2 k0'; have k1'' := cell_later hb2 k1')
      | (go_at_call 47; refine (C3.out _ w1.heap.size _ (cell_later hb2 (cell_later hb1 kt)) (by have h1 := HZ.out; have h2 := hb1.size; simp at h2; omega) ho2).mono ?_; rintro e w3 ⟨A3, d3, rfl, ho3, hg3⟩; have hne : ∀ k, k < w1.heap.size → (Value.slice A2 s.ws.length d2).ownBlock ≠ some k := fun k hk he => Nat.lt_irrefl _ (Nat.lt_of_lt_of_le hk (ho2.lt k he).1); have l1 := World.block_lt_of_cell? _ _ k0'; have k0''' := cell_grown hg3 k0'' (hne _ l1); have k1''' := cell_grown hg3 k1'' (hne _ l1); have q0 := cell_later hb2 (cell_later hb1 r0); have q1 := cell_later hb2 (cell_later hb1 r1); have l2 := World.block_lt_of_cell? _ _ (cell_later hb1 r0); have p0 := cell_grown hg3 q0 (hne _ l2); have p1 := cell_grown hg3 q1 (hne _ l2); have g0 := free_grown hg3 q0 (free_later hb2 (cell_later hb1 r0) (free_later hb1 r0 f0)) (hne _ l2); have g1 := free_grown hg3 q1 (free_later hb2 (cell_later hb1 r1) (free_later hb1 r1 f1)) (hne _ l2)))
  all_goals
    go_wp2_with fail
    obtain ⟨e0, e1, hg4⟩ := put2 (a := .slice A1 s.hs.length d1) (b := .slice A3 (List.filter (fun x => !x.task == t) s.ws).length d3) p0 p1
    have hz : W0.heap.size = w.heap.size + 3 := HZ.out
    have hz1 : W0.heap.size ≤ w1.heap.size := hb1.size
    have hz2 : w1.heap.size ≤ w2.heap.size := hb2.size
    have o1 := ho1.up hb2
    have o1' := o1.kept hg3 (fun k hk => o1.apart ho2 (by decide) k hk) (fun cs y h => intR_flat _ _ _ _ h)
    have o1'' := o1'.kept hg4 (fun k hk e => by have h1 := (o1'.lt k hk).1; injection e with e; simp at h1; omega) (fun cs y h => intR_flat _ _ _ _ h)
    have o3 := ho3.kept hg4 (fun k hk e => by have h1 := (ho3.lt k hk).1; injection e with e; omega) (fun cs y h => wtR_flat _ _ _ _ h)
    have hb3 : Below w.heap.size w w2 := ((bdd HB0.out).trans (hb1.mono (bdd HB0.out).size)).trans (hb2.mono (by omega))
    have hb4 := (hb3.grown hg3 (by omega) fun k hk => by have := (ho2.lt k hk).1; omega).grown hg4 (by have := hg3.size; omega) fun k hk => by injection hk; omega
    refine bodyPost_ret (v := .agg #[.slice A1 s.hs.length d1, .slice A3 (List.filter (fun x => !x.task == t) s.ws).length d3]) (by simp [results, Try.results31, go_sem, e0, e1]) rfl ⟨_, _, rfl, o1''.mono (by simp; omega), o3.mono (by omega), hb4⟩
end Go.Proofs.Ytgmjfmajdnoogaa
