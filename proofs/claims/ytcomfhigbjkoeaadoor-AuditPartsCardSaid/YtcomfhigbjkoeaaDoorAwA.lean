/-
  Walks of the examples of groundlinglaw15 and groundlinglaw32. Conditions: none.
  Walk of groundlinglaw32.awake. Conditions: none.
-/
import Derived.Test.YtcomfhigbjkoeaaDoorSmA
import Derived.Test.YtcomfhigbjkoeaaDoorLibW
namespace Go.Proofs.YtcomfhigbjkoeaaDoor
open Go.RowKit

/-- Cells that are known read as a list. -/
theorem Cells.sl {α : Type} {R : Rep α} {W : World} {g n : Nat} {cells : List Value} {xs : List α} (h : Cells W g cells) (hm : R.many W cells xs) (hn : n = xs.length) (hs : n ≤ 1000000) : Sl R W (.slice (some ⟨g, 0, none⟩) n n) xs := by
  subst hn
  refine ⟨_, _, rfl, Nat.le_refl _, by omega, .inr ⟨g, 0, rfl, h.lt, fun i x hi => ?_⟩⟩
  obtain ⟨cs, h1, h2⟩ := R.many_at hm hi
  exact ⟨cs, h1, fun j u hu => by rw [Nat.zero_add]; exact h.c _ u (h2 j u hu)⟩

theorem Cells.new' (w : World) (cs : List Value) (t : TypeId) (g : Nat) (hg : g = w.heap.size) : Cells (w.alloc (.cells cs.toArray t)) g cs := hg ▸ Cells.new w cs t

def exV : Ve := ⟨3, 10, 100, [⟨⟨#[104, 97, 108, 108]⟩, [3, 2], 2⟩, ⟨⟨#[98, 111, 120]⟩, [2], 0⟩]⟩
def VePost (w : World) (x : Ve) (e : Ending) (w' : World) : Prop := ∃ V vc, e = .returned (.agg #[.int .i64 x.shards, .int .i64 x.ttl, .int .i64 x.session, .slice V x.secs.length vc]) ∧ Sl secR w' (.slice V x.secs.length vc) x.secs ∧ Below w.heap.size w w'

set_option maxHeartbeats 2000000 in
theorem exV_any (w : World) : Calls Tryd.prog 22 #[] w (VePost w exV) := by
  go_enter Tryd.func22, Tryd.ntmps22
  go_wp2_with fail
  refine at_world (fun W => Below w.heap.size w W ∧ Cells W w.heap.size [.int .i64 3, .int .i64 10, .int .i64 100, .slice (some ⟨w.heap.size + 1 + 1 + 1, 0, none⟩) 2 2] ∧ Cells W (w.heap.size + 1) [.int .i64 3, .int .i64 2] ∧ Cells W (w.heap.size + 1 + 1) [.int .i64 2] ∧
      Cells W (w.heap.size + 1 + 1 + 1) [.string ⟨#[104, 97, 108, 108]⟩, .slice (some ⟨w.heap.size + 1, 0, none⟩) 2 2, .int .i64 2, .string ⟨#[98, 111, 120]⟩, .slice (some ⟨w.heap.size + 1 + 1, 0, none⟩) 1 1, .int .i64 0])
    ⟨bal (bal (bal (ba _ _))), (((Cells.new' _ _ _ _ rfl).alloc _).alloc _).alloc _, ((Cells.new' _ _ _ _ (by simp)).alloc _).alloc _, (Cells.new' _ _ _ _ (by simp)).alloc _, Cells.new' _ _ _ _ (by simp)⟩ fun W ⟨hb, k0, k1, k2, k3⟩ => ?_
  have g0 := k0.c 0 _ rfl
  have g1 := k0.c 1 _ rfl
  have g2 := k0.c 2 _ rfl
  have g3 := k0.c 3 _ rfl
  have hs1 : Sl intR W (.slice (some ⟨w.heap.size + 1, 0, none⟩) 2 2) [3, 2] := k1.sl (many_ints (xs := [3, 2]) (by simp [Bd])) rfl (by omega)
  have hs2 : Sl intR W (.slice (some ⟨w.heap.size + 1 + 1, 0, none⟩) 1 1) [2] := k2.sl (many_ints (xs := [2]) (by simp [Bd])) rfl (by omega)
  have hs3 : Sl secR W (.slice (some ⟨w.heap.size + 1 + 1 + 1, 0, none⟩) 2 2) exV.secs := k3.sl (R := secR) ⟨[.string ⟨#[104, 97, 108, 108]⟩, .slice (some ⟨w.heap.size + 1, 0, none⟩) 2 2, .int .i64 2], _, rfl, ⟨_, _, rfl, hs1, by simp [Bd], by decide⟩, ⟨_, [], rfl, ⟨_, _, rfl, hs2, by simp [Bd], by decide⟩, rfl⟩⟩ rfl (by omega)
  refine bodyPost_ret (v := .agg #[.int .i64 3, .int .i64 10, .int .i64 100, .slice (some ⟨w.heap.size + 1 + 1 + 1, 0, none⟩) 2 2]) (by simp [results, Tryd.results22, go_sem, g0, g1, g2, g3]) rfl ⟨_, _, rfl, hs3, hb⟩

def stCells (p : MOp × MRp) : List Value := [.int .i64 p.1.kind, .int .u32 p.1.owner, .int .i64 p.1.till, .int .i64 p.1.seat, .int .i64 p.1.section_, .int .i64 p.1.n, .int .u32 p.1.to, .int .u32 p.1.tk.seat, .int .u32 p.1.tk.owner, .int .u64 p.1.tk.serial, .int .u64 p.1.tk.epoch, .int .i64 p.1.now, .int .i64 p.2.err, .int .i64 p.2.seat, .int .i64 p.2.n, .int .i64 p.2.deadline, .int .u32 p.2.tk.seat, .int .u32 p.2.tk.owner, .int .u64 p.2.tk.serial, .int .u64 p.2.tk.epoch, .int .i64 p.2.place]
def exL : List (MOp × MRp) := [(⟨2, 7, 100, 3, 0, 0, 0, noTk, 0⟩, ⟨0, 0, 0, 10, noTk, 0⟩), (⟨5, 7, 100, 3, 0, 0, 0, noTk, 0⟩, ⟨0, 0, 0, 0, ⟨3, 7, 1, 0⟩, 0⟩), (⟨9, 0, 0, 0, 0, 0, 0, ⟨3, 7, 1, 0⟩, 0⟩, noRp)]
def StepsPost (w : World) (l : List (MOp × MRp)) (e : Ending) (w' : World) : Prop := ∃ g, e = .returned (.slice (some ⟨g, 0, none⟩) l.length l.length) ∧ w.heap.size ≤ g ∧ Cells w' g (l.flatMap stCells) ∧ Below w.heap.size w w'

set_option maxRecDepth 20000 in
set_option maxHeartbeats 4000000 in
theorem exL_any (w : World) : Calls Tryd.prog 23 #[] w (StepsPost w exL) := by
  go_enter Tryd.func23, Tryd.ntmps23
  go_wp2_with fail
  go_ret
  exact ⟨_, rfl, by simp, Cells.new' _ (exL.flatMap stCells) _ _ (by simp), bal (ba _ _)⟩

theorem many_steps {w : World} : ∀ {l : List (MOp × MRp)}, (∀ p, p ∈ l → OpOk p.1 ∧ RpOk p.2) → stR.many w (l.flatMap stCells) l
  | [], _ => rfl
  | p :: l, h => ⟨stCells p, l.flatMap stCells, rfl, ⟨rfl, h p (by simp)⟩, many_steps fun q hq => h q (by simp [hq])⟩
end Go.Proofs.YtcomfhigbjkoeaaDoor

namespace Go.Proofs.YtcomfhigbjkoeaaDoor
open Go.RowKit

def exL2 : List (MOp × MRp) := [(⟨2, 7, 100, 3, 0, 0, 0, noTk, 0⟩, ⟨0, 0, 0, 11, noTk, 0⟩), (⟨5, 7, 100, 3, 0, 0, 0, noTk, 0⟩, ⟨0, 0, 0, 0, ⟨3, 7, 1, 0⟩, 0⟩), (⟨9, 0, 0, 0, 0, 0, 0, ⟨3, 7, 1, 0⟩, 0⟩, noRp)]
def exL3 : List (MOp × MRp) := [(⟨2, 7, 100, 3, 0, 0, 0, noTk, 0⟩, ⟨0, 0, 0, 10, noTk, 0⟩), (⟨5, 7, 100, 3, 0, 0, 0, noTk, 0⟩, ⟨0, 0, 0, 0, ⟨3, 7, 2, 0⟩, 0⟩), (⟨9, 0, 0, 0, 0, 0, 0, ⟨3, 7, 1, 0⟩, 0⟩, noRp)]
theorem ex1 : checkA exV exL = ([], 0) := by decide +kernel
theorem ex2 : checkA exV exL2 = ([(0, 7)], 0) := by decide +kernel
theorem ex3 : checkA exV exL3 = ([(1, 12), (2, 10)], 0) := by decide +kernel
theorem exN : nameA 8 = (⟨#[116, 97, 107, 101, 110]⟩, 0) := by decide +kernel

theorem okL : ∀ p, p ∈ exL → OpOk p.1 ∧ RpOk p.2 := by
  intro p hp
  simp only [exL, List.mem_cons, List.not_mem_nil, or_false] at hp
  rcases hp with rfl | rfl | rfl <;> simp [OpOk, RpOk, TkOk, noTk, noRp, Bd, U32, U64]
theorem okL2 : ∀ p, p ∈ exL2 → OpOk p.1 ∧ RpOk p.2 := by
  intro p hp
  simp only [exL2, List.mem_cons, List.not_mem_nil, or_false] at hp
  rcases hp with rfl | rfl | rfl <;> simp [OpOk, RpOk, TkOk, noTk, noRp, Bd, U32, U64]
theorem okL3 : ∀ p, p ∈ exL3 → OpOk p.1 ∧ RpOk p.2 := by
  intro p hp
  simp only [exL3, List.mem_cons, List.not_mem_nil, or_false] at hp
  rcases hp with rfl | rfl | rfl <;> simp [OpOk, RpOk, TkOk, noTk, noRp, Bd, U32, U64]
theorem set2 : (exL.flatMap stCells).set 15 (.int .i64 11) = exL2.flatMap stCells := rfl
theorem set3 : (exL.flatMap stCells).set 39 (.int .u64 2) = exL3.flatMap stCells := rfl

/-- Check at the example's venue. -/
theorem exCheck {W : World} {V : Option Addr} {vc : Nat} (hv : Sl secR W (.slice V exV.secs.length vc) exV.secs) {l : List (MOp × MRp)} {g n : Nat} (hn : n = l.length) (hn2 : n ≤ 1000) (hk : Cells W g (l.flatMap stCells)) (ho : ∀ p, p ∈ l → OpOk p.1 ∧ RpOk p.2) {fs : List (Int × Int)} (hc : checkA exV l = (fs, 0)) :
    Calls Tryd.prog 9 #[.agg #[.int .i64 3, .int .i64 10, .int .i64 100, .slice V 2 vc], .slice (some ⟨g, 0, none⟩) n n] W fun e w' => (∃ A c, e = .returned (.tuple #[.slice A fs.length c, .int .i64 0]) ∧ Sl faR w' (.slice A fs.length c) fs) ∧ Below W.heap.size W w' := by
  subst hn
  refine (auCheck_any (x := exV) hv (by simp [Bd, exV]) (by simp [Bd, exV]) (by simp [Bd, exV]) (hk.sl (many_steps ho) rfl (by omega))).mono ?_
  rintro e w' ⟨A, c, rfl, h1, h2⟩
  rw [hc] at h1 ⊢
  exact ⟨⟨A, c, rfl, h1.sl⟩, h2⟩

set_option maxRecDepth 20000 in
set_option maxHeartbeats 8000000 in
theorem awake_any (w : World) : Calls Tryd.prog 8 #[] w fun e w' => e = .returned (.bool true) ∧ Below w.heap.size w w' := by
  go_enter Tryd.func8, Tryd.ntmps8
  go_wp2_with fail
  refine (exV_any _).mono ?_
  rintro e w1 ⟨V, vc, rfl, hV, hb⟩
  have HB := Lib.hid hb
  have HV := Lib.hid hV
  change Hid (Sl secR w1 (.slice V 2 vc) exV.secs) at HV
  clear hb hV
  simp only [exV, List.length_cons, List.length_nil, Nat.zero_add, Nat.reduceAdd]
  go_wp2_with fail
  obtain ⟨q, hq⟩ : ∃ q, w1.heap.size = q := ⟨_, rfl⟩
  rw [hq]
  refine at_world (fun W => Below w.heap.size w W ∧ Cells W q [.int .i64 3, .int .i64 10, .int .i64 100, .slice V 2 vc] ∧ Sl secR W (.slice V 2 vc) exV.secs) ⟨bal HB.out, Cells.new' w1 _ _ q hq.symm, HV.out.up (ba _ _)⟩ fun W2 ⟨hb2, k2, v2⟩ => ?_
  have HB2 := Lib.hid hb2
  have HK2 := Lib.hid k2
  have HV2 := Lib.hid v2
  clear hb2 k2 v2 hq HB HV
  refine any_start (by kernel_rfl) ?_
  refine any_two 0 2 (by kernel_rfl) fun K hK => ⟨?_, ?_⟩
  · have k2 := HK2.out.drew
    have c2_0 := k2.c 0 _ rfl
    have c2_1 := k2.c 1 _ rfl
    have c2_2 := k2.c 2 _ rfl
    have c2_3 := k2.c 3 _ rfl
    have y2 := k2.lt
    clear k2
    go_wp2_with fail
    refine (exL_any _).mono ?_
    rintro e w3 ⟨g1, rfl, hg1, kg1, hb3⟩
    replace hb3 : Below W2.heap.size W2 w3 := (bdd (Below.refl _ _)).trans hb3
    clear c2_0 c2_1 c2_2 c2_3 y2
    have KG := Lib.hid kg1
    have HB3 := Lib.hid (HB2.out.trans (hb3.mono HB2.out.size))
    have HK3 := Lib.hid (HK2.out.later hb3)
    have HV3 := Lib.hid (HV2.out.up hb3)
    clear kg1 hb3 hg1
    have k3 := HK3.out
    have c3_0 := k3.c 0 _ rfl
    have c3_1 := k3.c 1 _ rfl
    have c3_2 := k3.c 2 _ rfl
    have c3_3 := k3.c 3 _ rfl
    have y3 := k3.lt
    clear k3
    simp only [exL, List.length_cons, List.length_nil, Nat.zero_add, Nat.reduceAdd]
    go_wp2_with fail
    refine (exCheck (l := exL) (n := 3) HV3.out rfl (by omega) KG.out okL ex1).mono ?_
    rintro e w4 ⟨⟨A1, d1, rfl, hA1⟩, hb4⟩
    have HA1 := Lib.hid hA1
    have HB4 := Lib.hid (HB3.out.trans (hb4.mono HB3.out.size))
    have HK4 := Lib.hid (HK3.out.later hb4)
    have HV4 := Lib.hid (HV3.out.up hb4)
    clear hA1 hb4
    clear c3_0 c3_1 c3_2 c3_3 y3
    go_wp2_with fail
    refine hK.out _ _ ?_
    clear hK K
    refine any_rest 4 (by kernel_rfl) ?_
    simp only [List.drop_succ_cons, List.drop_zero]
    repeat (go_big_quiet_step (fail))
    refine wpQuiet_nil ?_
    refine gro_end fun W5 hb5 => ?_
    have HB5 := Lib.hid (HB4.out.trans (hb5.mono HB4.out.size))
    have HK5 := Lib.hid (HK4.out.later hb5)
    have HV5 := Lib.hid (HV4.out.up hb5)
    have HF1 := Lib.hid (HA1.out.up hb5)
    clear hb5
    go_wp2_with fail
    refine (exL_any _).mono ?_
    rintro e w6 ⟨g2, rfl, hg2, kg2, hb6⟩
    simp only [exL, List.length_cons, List.length_nil, Nat.zero_add, Nat.reduceAdd]
    have e15 := kg2.c 15 _ rfl
    have f15 := kg2.f 15
    have z2 := kg2.lt
    have KG2 := Lib.hid kg2
    have HB6 := Lib.hid hb6
    have hg2' : W5.heap.size ≤ g2 := hg2
    have hqW := HK5.out.lt
    clear kg2 hb6 hg2
    have k6 := (HK5.out.later HB6.out).grown (grownBy_set w6 g2 15 (.int .i64 11)) (fun e => by injection e with e; omega)
    have c6_0 := k6.c 0 _ rfl
    have c6_1 := k6.c 1 _ rfl
    have c6_2 := k6.c 2 _ rfl
    have c6_3 := k6.c 3 _ rfl
    have y6 : q < w6.heap.size := by have := k6.lt; simpa using this
    clear k6
    go_wp2_with fail
    obtain hs2 := KG2.out.set1 (j := 15) (u := .int .i64 11)
    rw [set2] at hs2
    have hbw := (Below.refl W5.heap.size W5).trans HB6.out |>.setCell (p := ⟨g2, 15, none⟩) hg2' (.int .i64 11)
    refine (exCheck (l := exL2) (n := 3) (HV5.out.up hbw) rfl (by omega) hs2 okL2 ex2).mono ?_
    rintro e w7 ⟨⟨A2, d2, rfl, hA2⟩, hb7⟩
    have hb57 : Below W5.heap.size W5 w7 := hbw.trans (hb7.mono hbw.size)
    have HA2 := Lib.hid hA2
    have HB7 := Lib.hid (HB5.out.trans (hb57.mono HB5.out.size))
    have HK7 := Lib.hid (HK5.out.later hb57)
    have HV7 := Lib.hid (HV5.out.up hb57)
    have HF2 := Lib.hid (HF1.out.up hb57)
    clear hA2 hb7 hb57 hbw hs2 e15 f15 z2 hqW hg2'
    clear c6_0 c6_1 c6_2 c6_3 y6
    go_wp2_with fail
    refine (exL_any _).mono ?_
    rintro e w8 ⟨g3, rfl, hg3, kg3, hb8⟩
    simp only [exL, List.length_cons, List.length_nil, Nat.zero_add, Nat.reduceAdd]
    have e39 := kg3.c 39 _ rfl
    have f39 := kg3.f 39
    have z3 := kg3.lt
    have KG3 := Lib.hid kg3
    have HB8 := Lib.hid hb8
    have hg3' : w7.heap.size ≤ g3 := hg3
    have hqW := HK7.out.lt
    clear kg3 hb8 hg3
    have k8 := (HK7.out.later HB8.out).grown (grownBy_set w8 g3 39 (.int .u64 2)) (fun e => by injection e with e; omega)
    have c8_0 := k8.c 0 _ rfl
    have c8_1 := k8.c 1 _ rfl
    have c8_2 := k8.c 2 _ rfl
    have c8_3 := k8.c 3 _ rfl
    have y8 : q < w8.heap.size := by have := k8.lt; simpa using this
    clear k8
    go_wp2_with fail
    obtain hs3 := KG3.out.set1 (j := 39) (u := .int .u64 2)
    rw [set3] at hs3
    have hbw := (Below.refl w7.heap.size w7).trans HB8.out |>.setCell (p := ⟨g3, 39, none⟩) hg3' (.int .u64 2)
    refine (exCheck (l := exL3) (n := 3) (HV7.out.up hbw) rfl (by omega) hs3 okL3 ex3).mono ?_
    rintro e w9 ⟨⟨A3, d3, rfl, hA3⟩, hb9⟩
    have hb79 : Below w7.heap.size w7 w9 := hbw.trans (hb9.mono hbw.size)
    have HA3 := Lib.hid hA3
    have HB9 := Lib.hid (HB7.out.trans (hb79.mono HB7.out.size))
    have HF3 := Lib.hid (HA2.out.up hb79)
    clear hA3 hb9 hb79 hbw hs3 e39 f39 z3 hqW hg3'
    clear c8_0 c8_1 c8_2 c8_3 y8
    go_wp2_with fail
    refine (auName_any 8 _).mono ?_
    rw [exN]
    rintro e w10 ⟨rfl, hb10⟩
    have HB10 := Lib.hid (HB9.out.trans (hb10.mono HB9.out.size))
    have HF4 := Lib.hid (HF3.out.up hb10)
    have HF5 := Lib.hid (HA3.out.up hb10)
    clear hb10
    go_wp2_with fail
    refine (sameF_any (xs := [(0, 7)]) (ys := [(0, 7)]) (HF4.out.up (ba _ _)) (sl_two w10 _ (0, 7) _ rfl (by simp [Bd]) (by simp [Bd]))).mono ?_
    rintro e w11 ⟨rfl, hb11⟩
    replace hb11 : Below w10.heap.size w10 w11 := (ba _ _).trans (hb11.mono (by simp))
    have HB11 := Lib.hid (HB10.out.trans (hb11.mono HB10.out.size))
    have HF6 := Lib.hid (HF5.out.up hb11)
    clear hb11
    rw [show decide ([((0 : Int), (7 : Int))] = [(0, 7)]) = true by decide]
    go_wp2_with fail
    refine (sameF_any (xs := [(1, 12), (2, 10)]) (ys := [(1, 12), (2, 10)]) (HF6.out.up (ba _ _)) ((Cells.new' w11 [.int .i64 1, .int .i64 12, .int .i64 2, .int .i64 10] _ _ rfl).sl (R := faR) ⟨[.int .i64 1, .int .i64 12], _, rfl, ⟨rfl, by simp [Bd], by simp [Bd]⟩, ⟨_, [], rfl, ⟨rfl, by simp [Bd], by simp [Bd]⟩, rfl⟩⟩ rfl (by simp))).mono ?_
    rintro e w12 ⟨rfl, hb12⟩
    replace hb12 : Below w11.heap.size w11 w12 := (ba _ _).trans (hb12.mono (by simp))
    have HB12 := Lib.hid (HB11.out.trans (hb12.mono HB11.out.size))
    clear hb12
    rw [show decide ([((1 : Int), (12 : Int)), (2, 10)] = [(1, 12), (2, 10)]) = true by decide]
    go_wp2_with fail
    go_ret
    exact ⟨rfl, HB12.out⟩
  · have k2 := HK2.out.drew
    have c2_0 := k2.c 0 _ rfl
    have c2_1 := k2.c 1 _ rfl
    have c2_2 := k2.c 2 _ rfl
    have c2_3 := k2.c 3 _ rfl
    have y2 := k2.lt
    clear k2
    go_wp2_with fail
    refine (exL_any _).mono ?_
    rintro e w3 ⟨g1, rfl, hg1, kg1, hb3⟩
    replace hb3 : Below W2.heap.size W2 w3 := (bdd (Below.refl _ _)).trans hb3
    clear c2_0 c2_1 c2_2 c2_3 y2
    have KG := Lib.hid kg1
    have HB3 := Lib.hid (HB2.out.trans (hb3.mono HB2.out.size))
    have HK3 := Lib.hid (HK2.out.later hb3)
    have HV3 := Lib.hid (HV2.out.up hb3)
    clear kg1 hb3 hg1
    have k3 := HK3.out
    have c3_0 := k3.c 0 _ rfl
    have c3_1 := k3.c 1 _ rfl
    have c3_2 := k3.c 2 _ rfl
    have c3_3 := k3.c 3 _ rfl
    have y3 := k3.lt
    clear k3
    simp only [exL, List.length_cons, List.length_nil, Nat.zero_add, Nat.reduceAdd]
    go_wp2_with fail
    refine (exCheck (l := exL) (n := 3) HV3.out rfl (by omega) KG.out okL ex1).mono ?_
    rintro e w4 ⟨⟨A1, d1, rfl, hA1⟩, hb4⟩
    have HA1 := Lib.hid hA1
    have HB4 := Lib.hid (HB3.out.trans (hb4.mono HB3.out.size))
    have HK4 := Lib.hid (HK3.out.later hb4)
    have HV4 := Lib.hid (HV3.out.up hb4)
    clear hA1 hb4
    clear c3_0 c3_1 c3_2 c3_3 y3
    go_wp2_with fail
    refine hK.out _ _ ?_
    clear hK K
    refine any_rest 4 (by kernel_rfl) ?_
    simp only [List.drop_succ_cons, List.drop_zero]
    repeat (go_big_quiet_step (fail))
    refine wpQuiet_nil ?_
    refine gro_end fun W5 hb5 => ?_
    have HB5 := Lib.hid (HB4.out.trans (hb5.mono HB4.out.size))
    have HK5 := Lib.hid (HK4.out.later hb5)
    have HV5 := Lib.hid (HV4.out.up hb5)
    have HF1 := Lib.hid (HA1.out.up hb5)
    clear hb5
    go_wp2_with fail
    refine (exL_any _).mono ?_
    rintro e w6 ⟨g2, rfl, hg2, kg2, hb6⟩
    simp only [exL, List.length_cons, List.length_nil, Nat.zero_add, Nat.reduceAdd]
    have e15 := kg2.c 15 _ rfl
    have f15 := kg2.f 15
    have z2 := kg2.lt
    have KG2 := Lib.hid kg2
    have HB6 := Lib.hid hb6
    have hg2' : W5.heap.size ≤ g2 := hg2
    have hqW := HK5.out.lt
    clear kg2 hb6 hg2
    have k6 := (HK5.out.later HB6.out).grown (grownBy_set w6 g2 15 (.int .i64 11)) (fun e => by injection e with e; omega)
    have c6_0 := k6.c 0 _ rfl
    have c6_1 := k6.c 1 _ rfl
    have c6_2 := k6.c 2 _ rfl
    have c6_3 := k6.c 3 _ rfl
    have y6 : q < w6.heap.size := by have := k6.lt; simpa using this
    clear k6
    go_wp2_with fail
    obtain hs2 := KG2.out.set1 (j := 15) (u := .int .i64 11)
    rw [set2] at hs2
    have hbw := (Below.refl W5.heap.size W5).trans HB6.out |>.setCell (p := ⟨g2, 15, none⟩) hg2' (.int .i64 11)
    refine (exCheck (l := exL2) (n := 3) (HV5.out.up hbw) rfl (by omega) hs2 okL2 ex2).mono ?_
    rintro e w7 ⟨⟨A2, d2, rfl, hA2⟩, hb7⟩
    have hb57 : Below W5.heap.size W5 w7 := hbw.trans (hb7.mono hbw.size)
    have HA2 := Lib.hid hA2
    have HB7 := Lib.hid (HB5.out.trans (hb57.mono HB5.out.size))
    have HK7 := Lib.hid (HK5.out.later hb57)
    have HV7 := Lib.hid (HV5.out.up hb57)
    have HF2 := Lib.hid (HF1.out.up hb57)
    clear hA2 hb7 hb57 hbw hs2 e15 f15 z2 hqW hg2'
    clear c6_0 c6_1 c6_2 c6_3 y6
    go_wp2_with fail
    refine (exL_any _).mono ?_
    rintro e w8 ⟨g3, rfl, hg3, kg3, hb8⟩
    simp only [exL, List.length_cons, List.length_nil, Nat.zero_add, Nat.reduceAdd]
    have e39 := kg3.c 39 _ rfl
    have f39 := kg3.f 39
    have z3 := kg3.lt
    have KG3 := Lib.hid kg3
    have HB8 := Lib.hid hb8
    have hg3' : w7.heap.size ≤ g3 := hg3
    have hqW := HK7.out.lt
    clear kg3 hb8 hg3
    have k8 := (HK7.out.later HB8.out).grown (grownBy_set w8 g3 39 (.int .u64 2)) (fun e => by injection e with e; omega)
    have c8_0 := k8.c 0 _ rfl
    have c8_1 := k8.c 1 _ rfl
    have c8_2 := k8.c 2 _ rfl
    have c8_3 := k8.c 3 _ rfl
    have y8 : q < w8.heap.size := by have := k8.lt; simpa using this
    clear k8
    go_wp2_with fail
    obtain hs3 := KG3.out.set1 (j := 39) (u := .int .u64 2)
    rw [set3] at hs3
    have hbw := (Below.refl w7.heap.size w7).trans HB8.out |>.setCell (p := ⟨g3, 39, none⟩) hg3' (.int .u64 2)
    refine (exCheck (l := exL3) (n := 3) (HV7.out.up hbw) rfl (by omega) hs3 okL3 ex3).mono ?_
    rintro e w9 ⟨⟨A3, d3, rfl, hA3⟩, hb9⟩
    have hb79 : Below w7.heap.size w7 w9 := hbw.trans (hb9.mono hbw.size)
    have HA3 := Lib.hid hA3
    have HB9 := Lib.hid (HB7.out.trans (hb79.mono HB7.out.size))
    have HF3 := Lib.hid (HA2.out.up hb79)
    clear hA3 hb9 hb79 hbw hs3 e39 f39 z3 hqW hg3'
    clear c8_0 c8_1 c8_2 c8_3 y8
    go_wp2_with fail
    refine (auName_any 8 _).mono ?_
    rw [exN]
    rintro e w10 ⟨rfl, hb10⟩
    have HB10 := Lib.hid (HB9.out.trans (hb10.mono HB9.out.size))
    have HF4 := Lib.hid (HF3.out.up hb10)
    have HF5 := Lib.hid (HA3.out.up hb10)
    clear hb10
    go_wp2_with fail
    refine (sameF_any (xs := [(0, 7)]) (ys := [(0, 7)]) (HF4.out.up (ba _ _)) (sl_two w10 _ (0, 7) _ rfl (by simp [Bd]) (by simp [Bd]))).mono ?_
    rintro e w11 ⟨rfl, hb11⟩
    replace hb11 : Below w10.heap.size w10 w11 := (ba _ _).trans (hb11.mono (by simp))
    have HB11 := Lib.hid (HB10.out.trans (hb11.mono HB10.out.size))
    have HF6 := Lib.hid (HF5.out.up hb11)
    clear hb11
    rw [show decide ([((0 : Int), (7 : Int))] = [(0, 7)]) = true by decide]
    go_wp2_with fail
    refine (sameF_any (xs := [(1, 12), (2, 10)]) (ys := [(1, 12), (2, 10)]) (HF6.out.up (ba _ _)) ((Cells.new' w11 [.int .i64 1, .int .i64 12, .int .i64 2, .int .i64 10] _ _ rfl).sl (R := faR) ⟨[.int .i64 1, .int .i64 12], _, rfl, ⟨rfl, by simp [Bd], by simp [Bd]⟩, ⟨_, [], rfl, ⟨rfl, by simp [Bd], by simp [Bd]⟩, rfl⟩⟩ rfl (by simp))).mono ?_
    rintro e w12 ⟨rfl, hb12⟩
    replace hb12 : Below w11.heap.size w11 w12 := (ba _ _).trans (hb12.mono (by simp))
    have HB12 := Lib.hid (HB11.out.trans (hb12.mono HB11.out.size))
    clear hb12
    rw [show decide ([((1 : Int), (12 : Int)), (2, 10)] = [(1, 12), (2, 10)]) = true by decide]
    go_wp2_with fail
    go_ret
    exact ⟨rfl, HB12.out⟩
end Go.Proofs.YtcomfhigbjkoeaaDoor
