/-
  Walks of venue.rows and venue.Seats. Conditions: as each theorem says.
-/
import Derived.Test.YtcomfhigbjkoeaaGreatDoorVnF
import Derived.Test.YtcomfhigbjkoeaaGreatDoorLibS
namespace Go.Proofs.YtcomfhigbjkoeaaGreatDoor
open Go.RowKit Go.Shelf
attribute [local go_sem] Oper.semAt_some

set_option maxHeartbeats 1000000 in
theorem rows_in (F : Fence) (n : Nat) (hF : F.fn 43) (hro : F.round = none) (a b c d : Value) (w : World) :
    CallsIn F n Tryz.prog 43 #[.agg #[a, b, c, d]] w fun e w' => e = .returned (.func (.func 58) #[] #[.pointer (some ⟨w.heap.size, 0, none⟩)]) ∧ w' = w.alloc (.cells #[a, b, c, d] 24) := by
  refine callsIn_of_wp Tryz.func43 rfl hF ?_ hro
  simp only [Tryz.ntmps43, List.size_toArray, List.length_cons, List.length_nil, Nat.reduceAdd, Nat.reduceSub, Array.replicate_succ, Array.replicate_zero, List.push_toArray, List.append_toArray, List.nil_append, List.cons_append]
  gi_wp2
  go_ret
  exact ⟨rfl, rfl⟩

theorem sum_nonneg : ∀ {l : List Int}, (∀ n, n ∈ l → 0 ≤ n) → 0 ≤ sum l
  | [], _ => by simp [sum]
  | x :: l, h => by
    have h1 := h x (by simp)
    have h2 := sum_nonneg (l := l) fun n hn => h n (by simp [hn])
    simp only [sum]
    omega

theorem secsE_ok : ∀ {xs before : List Sec} {i : Nat}, secsE before xs i = none → ∀ j, (hj : j < xs.length) → secE xs[j] (before ++ xs.take j) = 0
  | [], _, _, _, j, hj => by simp at hj
  | x :: xs, before, i, h, j, hj => by
    unfold secsE at h
    split at h
    · cases h
    · rename_i h0
      cases j with
      | zero => simpa using h0
      | succ j =>
        have := secsE_ok h j (by simpa using hj)
        simpa [List.take_succ_cons] using this

theorem secsE_ne : ∀ {xs before : List Sec} {i k : Nat} {e : Int}, secsE before xs i = some (k, e) → e ≠ 0
  | [], _, _, _, _, h => by cases h
  | x :: xs, before, i, k, e, h => by
    unfold secsE at h
    split at h
    · rename_i h0
      simp only [Option.some.injEq, Prod.mk.injEq] at h
      rw [← h.2]
      exact h0
    · exact secsE_ne h

theorem checkV_ok {x : Ve} (h : (checkV x).2 = 0) : SecsOk x.secs ∧ sum (allRows x) ≤ 4096 ∧ (1 ≤ x.ttl ∧ x.ttl ≤ 1000000000) ∧ (1 ≤ x.session ∧ x.session ≤ 1000000000) := by
  unfold checkV at h
  by_cases g1 : (outB x.shards 1 16 || outB x.ttl 1 1000000000 || outB x.session 1 1000000000) = true
  · rw [if_pos g1] at h
    exact absurd h (by decide)
  rw [if_neg g1] at h
  by_cases g2 : x.secs.length = 0
  · rw [if_pos g2] at h
    exact absurd h (by decide)
  rw [if_neg g2] at h
  by_cases g3 : 8 < x.secs.length
  · rw [if_pos g3] at h
    exact absurd h (by decide)
  rw [if_neg g3] at h
  cases hm : secsE [] x.secs 0 with
  | some p =>
    obtain ⟨i, e⟩ := p
    rw [hm] at h
    exact absurd h (secsE_ne hm)
  | none =>
    rw [hm] at h
    by_cases g4 : 4096 < sum (allRows x)
    · simp only [if_pos g4] at h
      exact absurd h (by decide)
    · simp only [Bool.or_eq_true, not_or, Bool.not_eq_true, outB, decide_eq_false_iff_not] at g1
      exact ⟨⟨by omega, fun j hj => by simpa using secsE_ok hm j hj⟩, by omega, ⟨by omega, by omega⟩, by omega, by omega⟩

/-- A variable of several cells. -/
def BoxN (W : World) (B : Nat) (t : TypeId) (cs : Array Value) : Prop := W.heap[B]? = some (.cells cs t (0, 0))
theorem BoxN.lt {W : World} {B : Nat} {t : TypeId} {cs : Array Value} (h : BoxN W B t cs) : B < W.heap.size := (Array.getElem?_eq_some_iff.1 h).1
theorem BoxN.cell {W : World} {B : Nat} {t : TypeId} {cs : Array Value} (h : BoxN W B t cs) (i : Nat) (u : Value) (hu : cs[i]? = some u) : W.cell? ⟨B, i, none⟩ = some u := by simp [World.cell?, show W.heap[B]? = _ from h, hu]
theorem BoxN.new (W : World) (t : TypeId) (cs : Array Value) : BoxN (W.alloc (.cells cs t)) W.heap.size t cs := World.alloc_heap_new W _
theorem BoxN.kept {W W' : World} {row : Option Nat} {B : Nat} {t : TypeId} {cs : Array Value} (h : BoxN W B t cs) (hg : W.grownBy W' row) (hne : some B ≠ row) : BoxN W' B t cs := (hg.block B h.lt hne).trans h
theorem boxN_own {β : Type} (B : Nat) (t : TypeId) (f : β → Array Value) : _root_.Go.Own (fun s W => BoxN W B t (f s)) := fun s X Y row hs hg hrow =>
  hs.kept hg (fun e' => by obtain ⟨o, ho, hc⟩ := hrow B e'.symm; rw [show X.heap[B]? = _ from hs] at ho; cases ho; cases hc)

/-- How many seats rows have, as int adds. -/
def accR (l : List Rw) : Int := l.foldl (fun s r => wrap64 (s + r.many)) 0
theorem accR_snoc (l : List Rw) (x : Rw) : accR (l ++ [x]) = wrap64 (accR l + x.many) := by simp [accR]
theorem many_rowsOf (i : Int) : ∀ (l : List Int) (k f : Int), (rowsOf i l k f).map (·.many) = l
  | [], _, _ => rfl
  | n :: l, k, f => by simp [rowsOf, many_rowsOf i l]
theorem many_rws : ∀ (l : List Sec) (i f : Int), (rws l i f).map (·.many) = l.flatMap (·.rows)
  | [], _, _ => rfl
  | s :: l, i, f => by simp [rws, many_rowsOf, many_rws l]
theorem accR_eq : ∀ (n : Nat) (l : List Rw), l.length = n → (∀ x, x ∈ l → 0 ≤ x.many) → sum (l.map (·.many)) ≤ 9223372036854775807 → accR l = sum (l.map (·.many)) := by
  intro n
  induction n with
  | zero => intro l hl _ _; rw [List.eq_nil_of_length_eq_zero hl]; rfl
  | succ n ih =>
    intro l hl hp hs
    have hne : l ≠ [] := by intro h; rw [h] at hl; simp at hl
    obtain ⟨a, x, rfl⟩ : ∃ a x, l = a ++ [x] := ⟨l.dropLast, l.getLast hne, (List.dropLast_concat_getLast hne).symm⟩
    have h1 := hp x (by simp)
    rw [List.map_append, sum_append] at hs ⊢
    simp only [List.map_cons, List.map_nil, sum, Int.add_zero] at hs ⊢
    have h2 : 0 ≤ sum (a.map (·.many)) := (sum_nonneg fun n hn => by
      obtain ⟨y, hy, rfl⟩ := List.mem_map.1 hn
      exact hp y (by simp [hy]))
    rw [accR_snoc, ih a (by simpa using hl) (fun y hy => hp y (by simp [hy])) (by omega)]
    unfold wrap64
    omega

theorem seats_acc {secs : List Sec} (hok : SecsOk secs) (hs : sum (secs.flatMap (·.rows)) ≤ 4096) : accR (rws secs 0 0) = sum (secs.flatMap (·.rows)) := by
  rw [accR_eq _ _ rfl (fun x hx => ?_) (by rw [many_rws]; omega), many_rws]
  have h1 : x.many ∈ (rws secs 0 0).map (·.many) := List.mem_map.2 ⟨x, hx, rfl⟩
  rw [many_rws] at h1
  obtain ⟨s, hs, hn⟩ := List.mem_flatMap.1 h1
  obtain ⟨j, hj, rfl⟩ := List.getElem_of_mem hs
  have := (secE_ok (hok.2 j hj)).2.1 _ hn
  omega

set_option maxHeartbeats 4000000 in
set_option maxRecDepth 100000 in
theorem seats_any (v : Value) (x : Ve) (w : World) (hv : IsVe w v x) :
    Calls Tryz.prog 24 #[v] w fun e w' => e = .returned (.tuple #[.int .i64 (seatsV x).1, .int .i64 (seatsV x).2]) ∧ Below w.heap.size w w' := by
  have C1 := Lib.hid (fun W (hb : Below w.heap.size w W) => venueCheck_any v x W (by obtain ⟨A, c, h1, h2, h3⟩ := hv; exact ⟨A, c, h1, h2.up hb, h3⟩))
  obtain ⟨A, c, rfl, hs, _, _, _⟩ := hv
  have hE := Lib.hid (show seatsV x = if (checkV x).2 ≠ 0 then (0, (checkV x).2) else (sum (allRows x), 0) from rfl)
  have hok := Lib.hid (fun h => checkV_ok (x := x) h)
  generalize hcv : checkV x = E at C1 hE hok
  obtain ⟨E1, E2⟩ := E
  simp only at C1 hE hok
  clear hcv
  refine (callsIn_wide (n := 6)).1 ?_
  refine callsIn_of_wp_marks Tryz.func24 rfl trivial ?_ rfl
  simp only [Tryz.ntmps24, List.size_toArray, List.length_cons, List.length_nil, Nat.reduceAdd, Nat.reduceSub, Array.replicate_succ, Array.replicate_zero, List.push_toArray, List.append_toArray, List.nil_append, List.cons_append]
  by_cases h : E2 = 0
  case neg =>
    have t0 : (E2 != 0) = true := by simpa using h
    gi_wp2
    refine ⟨trivial, ?_⟩
    refine (callsIn_wide.2 (C1.out _ (bal (ba _ _)))).mono ?_
    rintro e w1 ⟨rfl, hb1⟩
    have k0 := ((Cells.new (w.alloc (.cells #[.int .i64 x.shards, .int .i64 x.ttl, .int .i64 x.session, .slice A x.secs.length c] 24)) [.int .i64 0] 3).later hb1)
    have c0 := k0.c 0 _ rfl
    have f0 := k0.f 0
    have y0 := k0.lt
    simp only [World.size_alloc] at c0 f0 y0
    have c1 := ((Cells.new w [.int .i64 x.shards, .int .i64 x.ttl, .int .i64 x.session, .slice A x.secs.length c] 24).alloc (.cells #[.int .i64 0] 3)).later hb1
    gi_wp2
    refine ⟨.tuple #[.int .i64 0, .int .i64 E2], ?_, by rw [hE.out, if_pos h], ?_⟩
    · have h0 : (w1.setCell ⟨w.heap.size + 1, 0, none⟩ (.int .i64 0)).cell? ⟨w.heap.size + 1, 0, none⟩ = some (.int .i64 0) := World.cell?_setCell_same' _ _ _ (by rw [c0]; rfl)
      simp [results, Tryz.results24, go_sem, h0]
    · have h1 : Below w.heap.size w w1 := (bal (ba w _)).trans (hb1.mono (bal (ba w _)).size)
      exact h1.grown (grownBy_set w1 (w.heap.size + 1) 0 _) h1.size (fun k hk => by injection hk; omega)
  subst h
  gi_wp2
  refine ⟨trivial, ?_⟩
  refine (callsIn_wide.2 (C1.out _ (bal (ba _ _)))).mono ?_
  rintro e w1 ⟨rfl, hb1⟩
  have bN : Boxed w1 (w.heap.size + 1) 3 (.int .i64 0) := by
    have h := (Boxed.new (w.alloc (.cells #[.int .i64 x.shards, .int .i64 x.ttl, .int .i64 x.session, .slice A x.secs.length c] 24)) 3 (.int .i64 0))
    simp only [World.size_alloc] at h
    exact (hb1.block (w.heap.size + 1) (by simp)).trans h
  have K1 := ((Cells.new w [.int .i64 x.shards, .int .i64 x.ttl, .int .i64 x.session, .slice A x.secs.length c] 24).alloc (.cells #[.int .i64 0] 3)).later hb1
  have hbw : Below w.heap.size w w1 := (bal (ba w _)).trans (hb1.mono (bal (ba w _)).size)
  have c0 := K1.c 0 _ rfl
  have c1 := K1.c 1 _ rfl
  have c2 := K1.c 2 _ rfl
  have c3 := K1.c 3 _ rfl
  have hz := K1.lt
  have hz2 : w.heap.size + 1 < w1.heap.size := bN.lt
  gi_wp2
  refine ⟨trivial, ?_⟩
  refine (rows_in _ _ trivial rfl _ _ _ _ _).mono ?_
  rintro e w2 ⟨rfl, rfl⟩
  gi_wp2
  have hbw2 : Below w.heap.size w (w1.alloc (.cells #[.int .i64 x.shards, .int .i64 x.ttl, .int .i64 x.session, .slice A x.secs.length c] 24)) := bal hbw
  obtain ⟨hok, hsum, _⟩ := hok.out (by trivial)
  have hBn := (Cells.new w1 [.int .i64 x.shards, .int .i64 x.ttl, .int .i64 x.session, .slice A x.secs.length c] 24).c 3 _ rfl
  have bN2 := bN.alloc (.cells #[.int .i64 x.shards, .int .i64 x.ttl, .int .i64 x.session, .slice A x.secs.length c] 24)
  obtain ⟨W0, hW0⟩ : ∃ W0, w1.alloc (.cells #[.int .i64 x.shards, .int .i64 x.ttl, .int .i64 x.session, .slice A x.secs.length c] 24) = W0 := ⟨_, rfl⟩
  have hBn' : w1.heap.size < W0.heap.size := by rw [← hW0]; simp
  rw [show (List.toArray [Value.int .i64 x.shards, .int .i64 x.ttl, .int .i64 x.session, .slice A x.secs.length c]) = #[Value.int .i64 x.shards, .int .i64 x.ttl, .int .i64 x.session, .slice A x.secs.length c] from rfl] at hBn
  rw [hW0] at hbw2 hBn bN2 ⊢
  clear hW0 c0 c1 c2 c3 K1 bN hbw hb1
  have hZ : w.heap.size ≤ W0.heap.size := hbw2.size
  refine wpIn_rangeFunc_ownH rfl (by decide) (gf := 58) (lb := #[.pointer (some ⟨w1.heap.size, 0, none⟩)]) rfl trivial (enters_of Tryz.func58 (by kernel_rfl) rfl)
    (encs := rwEnc) (Kp := Below w.heap.size) (S := fun ys => ys = rws x.secs 0 0) (Sp := fun pre => pre <+: rws x.secs 0 0) (N := (rws x.secs 0 0).length) (w0 := W0)
    (fun l J Jx W hW hJ _ hY h0 => rows1_in _ _ trivial rfl (by decide) l w1.heap.size w A c x.secs hs hok J Jx W hJ hY (hbw2.trans (hW.mono hZ)) (cell_later hW hBn) h0)
    belowK_t (belowK_b hZ) (Below.refl _ _) (fun _ => rfl)
    (fun pre W => Boxed W (w.heap.size + 1) 3 (.int .i64 (accR pre)) ∧ Below w.heap.size w W)
    (fun _ _ _ => False)
    (OwnFrom.and (_root_.Go.Own.from (boxed_own _ _ _) _) (ownFrom_below (Nat.le_refl _) hZ))
    (fun _ _ _ _ _ hs _ _ => hs)
    ⟨bN2, hbw2⟩
    (fun y a' W => ∃ Bx, w.heap.size + 1 < Bx ∧ BoxN W Bx 91 #[.int .i64 y.sec, .int .i64 y.row, .int .i64 y.first, .int .i64 y.many] ∧ a' = { tmps := #[.agg #[.int .i64 x.shards, .int .i64 x.ttl, .int .i64 x.session, .slice A x.secs.length c], .pointer (some ⟨w.heap.size, 0, none⟩), .pointer (some ⟨w.heap.size + 1, 0, none⟩), .int .i64 0, .int .i64 E1, .int .i64 0, .pointer (some ⟨Bx, 0, none⟩), .tuple #[.int .i64 E1, .int .i64 0], .agg #[.int .i64 x.shards, .int .i64 x.ttl, .int .i64 x.session, .slice A x.secs.length c], .tuple #[.int .i64 E1, .int .i64 0], .int .i64 E1, .int .i64 0, .int .i64 0, .bool false, undef, .agg #[.int .i64 x.shards, .int .i64 x.ttl, .int .i64 x.session, .slice A x.secs.length c], .func (.func 58) #[] #[.pointer (some ⟨w1.heap.size, 0, none⟩)], .agg #[.int .i64 y.sec, .int .i64 y.row, .int .i64 y.first, .int .i64 y.many], undef, undef, undef, undef, undef], defers := [] })
    (fun y a' _ X Y row hs hg hr => by obtain ⟨Bx, h1, h2, h3⟩ := hs; exact ⟨Bx, h1, boxN_own Bx 91 (fun (_ : Unit) => #[.int .i64 y.sec, .int .i64 y.row, .int .i64 y.first, .int .i64 y.many]) () X Y row h2 hg (fun r e => (hr r e).2), h3⟩)
    ?assign ?body ?done ?stop
  case assign =>
    rintro l pre y W K ⟨bS1, hB1⟩ hK
    simp only [rwEnc]
    gi_wp2
    exact hK _ _ ((KeepsOthers.alloc _ _).from _) ((Below.refl _ W).alloc hB1.size _) ⟨bS1.alloc _, hB1.alloc hB1.size _⟩ ⟨W.heap.size, bS1.lt, BoxN.new W 91 _, rfl⟩
  case body =>
    rintro l pre y a' W hl _ ⟨bS1, hB1⟩ ⟨Bx, hBx, bX, rfl⟩ hlt
    have cS := bS1.cell
    have fS := bS1.frozen
    have cX := bX.cell 3 _ rfl
    gi_wp2
    exact ⟨(KeepsOthers.setCell _ _ _).from _, (Below.refl _ W).setCell (p := ⟨w.heap.size + 1, 0, none⟩) (by simp) _, by rw [accR_snoc]; exact bS1.set _, hB1.setCell (p := ⟨w.heap.size + 1, 0, none⟩) (by simp) _⟩
  case done =>
    rintro D zs W hD rfl ⟨bS1, hB1⟩ hK
    have cS := bS1.cell
    have fS := bS1.frozen
    rw [seats_acc hok hsum] at cS bS1
    gi_wp2
    have hK' := (KeepsOthers.setCell W ⟨w.heap.size + 1, 0, none⟩ (.int .i64 (sum (x.secs.flatMap (·.rows))))).same D _ hK rfl
    refine ⟨by simp, .inl ⟨_, _, rfl, run_takeDeferred hK', ?_⟩⟩
    have b2 := bS1.set (.int .i64 (sum (x.secs.flatMap (·.rows))))
    have hB2 : Below w.heap.size w (W.setCell ⟨w.heap.size + 1, 0, none⟩ (.int .i64 (sum (x.secs.flatMap (·.rows))))) := hB1.setCell (p := ⟨w.heap.size + 1, 0, none⟩) (by simp) _
    have h0 := cell_kept b2.cell (grownBy_putObj' _ D (.deferred none)) (fun r e => by cases e; exact ⟨_, hK', rfl⟩)
    refine ⟨.tuple #[.int .i64 (sum (x.secs.flatMap (·.rows))), .int .i64 0], by simp [results, Tryz.results24, go_sem, h0], by rw [hE.out, if_neg (by simp)]; rfl, hB2.trans (belowK_b (w := w) (Nat.le_refl _) _ D _ _ (by omega) hK' rfl rfl)⟩
  case stop =>
    rintro D c pre W _ _ h _
    exact h.elim
end Go.Proofs.YtcomfhigbjkoeaaGreatDoor
