/-
  Walks of venue.find and venue.Place. Conditions: as each theorem says.
-/
import Derived.Test.YtcomfhigbjkoeaaGreatDoorVnG
namespace Go.Proofs.YtcomfhigbjkoeaaGreatDoor
open Go.RowKit Go.Shelf
attribute [local go_sem] Oper.semAt_some

/-- Whether a row holds a seat, as int adds. -/
def hit (seat : Int) (y : Rw) : Bool := decide (y.first ≤ seat) && decide (seat < wrap64 (y.first + y.many))
def noRw : Rw := ⟨0, 0, 0, 0⟩
/-- What find answers. -/
def findV (x : Ve) (seat : Int) : Rw × Int := if (checkV x).2 ≠ 0 then (noRw, (checkV x).2) else match (rws x.secs 0 0).find? (hit seat) with
  | some y => (y, 0)
  | none => (noRw, 4)

theorem BoxN.set {W : World} {B : Nat} {t : TypeId} {cs : Array Value} (h : BoxN W B t cs) (i : Nat) (u : Value) : BoxN (W.setCell ⟨B, i, none⟩ u) B t (cs.setIfInBounds i u) := by
  obtain ⟨hlt, hk⟩ := Array.getElem?_eq_some_iff.1 h
  show (W.heap.modify B _)[B]? = _
  rw [Array.getElem?_eq_getElem (by rw [Array.size_modify]; exact hlt), Array.getElem_modify_self, hk]
  rfl
theorem BoxN.set4 {W : World} {B : Nat} {t : TypeId} {a b c d : Value} (h : BoxN W B t #[a, b, c, d]) (a' b' c' d' : Value) :
    BoxN ((((W.setCell ⟨B, 0, none⟩ a').setCell ⟨B, 1, none⟩ b').setCell ⟨B, 2, none⟩ c').setCell ⟨B, 3, none⟩ d') B t #[a', b', c', d'] := by
  have h1 := (((h.set 0 a').set 1 b').set 2 c').set 3 d'
  simpa using h1
theorem BoxN.other {W : World} {B B' i : Nat} {t : TypeId} {cs : Array Value} (h : BoxN W B t cs) (hne : B ≠ B') (u : Value) : BoxN (W.setCell ⟨B', i, none⟩ u) B t cs := h.kept (grownBy_set W B' i u) (fun e => hne (by cases e; rfl))
theorem BoxN.frozen {W : World} {B : Nat} {t : TypeId} {cs : Array Value} (h : BoxN W B t cs) (i : Nat) : W.frozen? ⟨B, i, none⟩ = false := by simp [World.frozen?, show W.heap[B]? = _ from h]
theorem BoxN.one {W : World} {B : Nat} {t : TypeId} {v : Value} (h : Boxed W B t v) : BoxN W B t #[v] := h
theorem BoxN.later {W W' : World} {B : Nat} {t : TypeId} {cs : Array Value} (h : BoxN W B t cs) (hb : Below W.heap.size W W') : BoxN W' B t cs := (hb.block B h.lt).trans h
theorem BoxN.alloc {W : World} {B : Nat} {t : TypeId} {cs : Array Value} (h : BoxN W B t cs) (o : Obj) : BoxN (W.alloc o) B t cs := h.later (ba _ _)

set_option maxHeartbeats 4000000 in
set_option maxRecDepth 100000 in
theorem find_any (v : Value) (x : Ve) (seat : Int) (w : World) (hv : IsVe w v x) :
    Calls Tryz.prog 89 #[v, .int .i64 seat] w fun e w' => e = .returned (.tuple #[.agg #[.int .i64 (findV x seat).1.sec, .int .i64 (findV x seat).1.row, .int .i64 (findV x seat).1.first, .int .i64 (findV x seat).1.many], .int .i64 (findV x seat).2]) ∧ Below w.heap.size w w' := by
  have C1 := Lib.hid (fun W (hb : Below w.heap.size w W) => venueCheck_any v x W (by obtain ⟨A, c, h1, h2, h3⟩ := hv; exact ⟨A, c, h1, h2.up hb, h3⟩))
  obtain ⟨A, c, rfl, hs, _, _, _⟩ := hv
  have hE := Lib.hid (show findV x seat = if (checkV x).2 ≠ 0 then (noRw, (checkV x).2) else match (rws x.secs 0 0).find? (hit seat) with | some y => (y, 0) | none => (noRw, 4) from rfl)
  have hok := Lib.hid (fun h => checkV_ok (x := x) h)
  generalize hcv : checkV x = E at C1 hE hok
  obtain ⟨E1, E2⟩ := E
  simp only at C1 hE hok
  clear hcv
  refine (callsIn_wide (n := 6)).1 ?_
  refine callsIn_of_wp_marks Tryz.func89 rfl trivial ?_ rfl
  simp only [Tryz.ntmps89, List.size_toArray, List.length_cons, List.length_nil, Nat.reduceAdd, Nat.reduceSub, Array.replicate_succ, Array.replicate_zero, List.push_toArray, List.append_toArray, List.nil_append, List.cons_append]
  gi_wp2
  refine ⟨trivial, ?_⟩
  obtain ⟨W1, hW1⟩ : ∃ W1, (((w.alloc (.cells #[.int .i64 x.shards, .int .i64 x.ttl, .int .i64 x.session, .slice A x.secs.length c] 24)).alloc (.cells #[.int .i64 seat] 3)).alloc (.cells #[.int .i64 0, .int .i64 0, .int .i64 0, .int .i64 0] 91)).alloc (.cells #[.int .i64 0] 29) = W1 := ⟨_, rfl⟩
  have b2 : BoxN W1 w.heap.size 24 #[.int .i64 x.shards, .int .i64 x.ttl, .int .i64 x.session, .slice A x.secs.length c] := by
    rw [← hW1]; exact (((BoxN.new w _ _).alloc _).alloc _).alloc _
  have b3 : BoxN W1 (w.heap.size + 1) 3 #[.int .i64 seat] := by
    rw [← hW1]; have h := BoxN.new (w.alloc (.cells #[.int .i64 x.shards, .int .i64 x.ttl, .int .i64 x.session, .slice A x.secs.length c] 24)) 3 #[.int .i64 seat]; rw [World.size_alloc] at h; exact (h.alloc _).alloc _
  have b4 : BoxN W1 (w.heap.size + 1 + 1) 91 #[.int .i64 0, .int .i64 0, .int .i64 0, .int .i64 0] := by
    rw [← hW1]; have h := BoxN.new ((w.alloc (.cells #[.int .i64 x.shards, .int .i64 x.ttl, .int .i64 x.session, .slice A x.secs.length c] 24)).alloc (.cells #[.int .i64 seat] 3)) 91 #[.int .i64 0, .int .i64 0, .int .i64 0, .int .i64 0]; simp only [World.size_alloc] at h; exact h.alloc _
  have b5 : BoxN W1 (w.heap.size + 1 + 1 + 1) 29 #[.int .i64 0] := by
    rw [← hW1]; have h := BoxN.new (((w.alloc (.cells #[.int .i64 x.shards, .int .i64 x.ttl, .int .i64 x.session, .slice A x.secs.length c] 24)).alloc (.cells #[.int .i64 seat] 3)).alloc (.cells #[.int .i64 0, .int .i64 0, .int .i64 0, .int .i64 0] 91)) 29 #[.int .i64 0]; simp only [World.size_alloc] at h; exact h
  have hb1 : Below w.heap.size w W1 := by rw [← hW1]; exact bal (bal (bal (ba _ _)))
  rw [hW1]
  clear hW1
  refine (callsIn_wide.2 (C1.out _ hb1)).mono ?_
  rintro e w2 ⟨rfl, hb2⟩
  replace b2 := b2.later hb2
  replace b3 := b3.later hb2
  replace b4 := b4.later hb2
  replace b5 := b5.later hb2
  replace hb1 : Below w.heap.size w w2 := hb1.trans (hb2.mono hb1.size)
  clear hb2
  have c0 := b2.cell 0 (.int .i64 x.shards) rfl
  have c1 := b2.cell 1 (.int .i64 x.ttl) rfl
  have c2 := b2.cell 2 (.int .i64 x.session) rfl
  have c3 := b2.cell 3 (.slice A x.secs.length c) rfl
  have z5 := b5.lt
  have z2 := b2.lt
  by_cases h : E2 = 0
  case neg =>
    have t0 : (E2 != 0) = true := by simpa using h
    have d0 := b4.cell 0 (.int .i64 0) rfl
    have d1 := b4.cell 1 (.int .i64 0) rfl
    have d2 := b4.cell 2 (.int .i64 0) rfl
    have d3 := b4.cell 3 (.int .i64 0) rfl
    have e0 := b5.cell 0 (.int .i64 0) rfl
    have fd0 := b4.frozen 0
    have fd1 := b4.frozen 1
    have fd2 := b4.frozen 2
    have fd3 := b4.frozen 3
    have fe0 := b5.frozen 0
    gi_wp2
    have b4' := (b4.set4 (.int .i64 0) (.int .i64 0) (.int .i64 0) (.int .i64 0)).other (B' := w.heap.size + 1 + 1 + 1) (i := 0) (by omega) (.int .i64 E2)
    have b5' := (((((b5.other (B' := w.heap.size + 1 + 1) (i := 0) (by omega) (.int .i64 0)).other (B' := w.heap.size + 1 + 1) (i := 1) (by omega) (.int .i64 0)).other (B' := w.heap.size + 1 + 1) (i := 2) (by omega) (.int .i64 0)).other (B' := w.heap.size + 1 + 1) (i := 3) (by omega) (.int .i64 0)).set 0 (.int .i64 E2))
    have g0 := b4'.cell 0 (.int .i64 0) rfl
    have g1 := b4'.cell 1 (.int .i64 0) rfl
    have g2 := b4'.cell 2 (.int .i64 0) rfl
    have g3 := b4'.cell 3 (.int .i64 0) rfl
    have g4 := b5'.cell 0 (.int .i64 E2) rfl
    have hB : Below w.heap.size w (((((w2.setCell ⟨w.heap.size + 1 + 1, 0, none⟩ (.int .i64 0)).setCell ⟨w.heap.size + 1 + 1, 1, none⟩ (.int .i64 0)).setCell ⟨w.heap.size + 1 + 1, 2, none⟩ (.int .i64 0)).setCell ⟨w.heap.size + 1 + 1, 3, none⟩ (.int .i64 0)).setCell ⟨w.heap.size + 1 + 1 + 1, 0, none⟩ (.int .i64 E2)) :=
      ((((hb1.setCell (p := ⟨w.heap.size + 1 + 1, 0, none⟩) (by simp; omega) _).setCell (p := ⟨w.heap.size + 1 + 1, 1, none⟩) (by simp; omega) _).setCell (p := ⟨w.heap.size + 1 + 1, 2, none⟩) (by simp; omega) _).setCell (p := ⟨w.heap.size + 1 + 1, 3, none⟩) (by simp; omega) _).setCell (p := ⟨w.heap.size + 1 + 1 + 1, 0, none⟩) (by simp; omega) _
    exact ⟨.tuple #[.agg #[.int .i64 0, .int .i64 0, .int .i64 0, .int .i64 0], .int .i64 E2], by simp [results, Tryz.results89, go_sem, g0, g1, g2, g3, g4], by rw [hE.out, if_pos h]; rfl, hB⟩
  subst h
  gi_wp2
  refine ⟨trivial, ?_⟩
  refine (rows_in _ _ trivial rfl _ _ _ _ _).mono ?_
  rintro e w3 ⟨rfl, rfl⟩
  gi_wp2
  obtain ⟨hok, hsum, _⟩ := hok.out (by trivial)
  have hBn := (BoxN.new w2 24 #[.int .i64 x.shards, .int .i64 x.ttl, .int .i64 x.session, .slice A x.secs.length c]).cell 3 (.slice A x.secs.length c) rfl
  have hbw2 : Below w.heap.size w (w2.alloc (.cells #[.int .i64 x.shards, .int .i64 x.ttl, .int .i64 x.session, .slice A x.secs.length c] 24)) := bal hb1
  replace b3 := b3.alloc (.cells #[.int .i64 x.shards, .int .i64 x.ttl, .int .i64 x.session, .slice A x.secs.length c] 24)
  replace b4 := b4.alloc (.cells #[.int .i64 x.shards, .int .i64 x.ttl, .int .i64 x.session, .slice A x.secs.length c] 24)
  replace b5 := b5.alloc (.cells #[.int .i64 x.shards, .int .i64 x.ttl, .int .i64 x.session, .slice A x.secs.length c] 24)
  obtain ⟨W0, hW0⟩ : ∃ W0, w2.alloc (.cells #[.int .i64 x.shards, .int .i64 x.ttl, .int .i64 x.session, .slice A x.secs.length c] 24) = W0 := ⟨_, rfl⟩
  rw [hW0] at hbw2 hBn b3 b4 b5 ⊢
  clear hW0 c0 c1 c2 c3 b2 hb1
  have hZ : w.heap.size ≤ W0.heap.size := hbw2.size
  refine wpIn_rangeFunc_ownH rfl (by decide) (gf := 58) (lb := #[.pointer (some ⟨w2.heap.size, 0, none⟩)]) rfl trivial (enters_of Tryz.func58 (by kernel_rfl) rfl)
    (encs := rwEnc) (Kp := Below w.heap.size) (S := fun ys => ys = rws x.secs 0 0) (Sp := fun pre => pre <+: rws x.secs 0 0) (N := (rws x.secs 0 0).length) (w0 := W0)
    (fun l J Jx W hW hJ _ hY h0 => rows1_in _ _ trivial rfl (by decide) l w2.heap.size w A c x.secs hs hok J Jx W hJ hY (hbw2.trans (hW.mono hZ)) (cell_later hW hBn) h0)
    belowK_t (belowK_b hZ) (Below.refl _ _) (fun _ => rfl)
    (fun pre W => ((((∀ z, z ∈ pre → hit seat z = false) ∧ BoxN W (w.heap.size + 1) 3 #[.int .i64 seat]) ∧ BoxN W (w.heap.size + 1 + 1) 91 #[.int .i64 0, .int .i64 0, .int .i64 0, .int .i64 0]) ∧ BoxN W (w.heap.size + 1 + 1 + 1) 29 #[.int .i64 0]) ∧ Below w.heap.size w W)
    (fun c pre W => ((c = .ret ∧ ∃ q y, pre = q ++ [y] ∧ (∀ z, z ∈ q → hit seat z = false) ∧ hit seat y = true ∧ BoxN W (w.heap.size + 1 + 1) 91 #[.int .i64 y.sec, .int .i64 y.row, .int .i64 y.first, .int .i64 y.many]) ∧ BoxN W (w.heap.size + 1 + 1 + 1) 29 #[.int .i64 0]) ∧ Below w.heap.size w W)
    (OwnFrom.and (OwnFrom.and (OwnFrom.and (OwnFrom.and (ownFrom_pure _ _) (_root_.Go.Own.from (boxN_own _ _ _) _)) (_root_.Go.Own.from (boxN_own _ _ _) _)) (_root_.Go.Own.from (boxN_own _ _ _) _)) (ownFrom_below (Nat.le_refl _) hZ))
    (fun c pre X Y row hs hg hr => by
      obtain ⟨⟨⟨hc, q, y, h1, h2, h3, h4⟩, h5⟩, h6⟩ := hs
      exact ⟨⟨⟨hc, q, y, h1, h2, h3, boxN_own _ _ (fun (_ : Unit) => #[.int .i64 y.sec, .int .i64 y.row, .int .i64 y.first, .int .i64 y.many]) () X Y row h4 hg (fun r e => (hr r e).2)⟩, boxN_own _ _ (fun (_ : Unit) => #[.int .i64 0]) () X Y row h5 hg (fun r e => (hr r e).2)⟩, ownFrom_below (Nat.le_refl _) hZ () X Y row h6 hg hr⟩)
    ⟨⟨⟨⟨by simp, b3⟩, b4⟩, b5⟩, hbw2⟩
    (fun y a' W => ∃ Bx, w.heap.size + 1 + 1 + 1 < Bx ∧ BoxN W Bx 91 #[.int .i64 y.sec, .int .i64 y.row, .int .i64 y.first, .int .i64 y.many] ∧ a' = { tmps := #[.agg #[.int .i64 x.shards, .int .i64 x.ttl, .int .i64 x.session, .slice A x.secs.length c], .int .i64 seat, .pointer (some ⟨w.heap.size, 0, none⟩), .pointer (some ⟨w.heap.size + 1, 0, none⟩), .pointer (some ⟨w.heap.size + 1 + 1, 0, none⟩), .pointer (some ⟨w.heap.size + 1 + 1 + 1, 0, none⟩), .int .i64 E1, .int .i64 0, .pointer (some ⟨Bx, 0, none⟩), .tuple #[.int .i64 E1, .int .i64 0], .agg #[.int .i64 x.shards, .int .i64 x.ttl, .int .i64 x.session, .slice A x.secs.length c], .tuple #[.int .i64 E1, .int .i64 0], .int .i64 E1, .int .i64 0, .int .i64 0, .bool false, undef, undef, .agg #[.int .i64 x.shards, .int .i64 x.ttl, .int .i64 x.session, .slice A x.secs.length c], .func (.func 58) #[] #[.pointer (some ⟨w2.heap.size, 0, none⟩)], .agg #[.int .i64 y.sec, .int .i64 y.row, .int .i64 y.first, .int .i64 y.many], undef, undef, undef, undef, undef, undef, undef, undef, undef, undef, undef, undef, undef, undef, undef], defers := [] })
    (fun y a' _ X Y row hs hg hr => by obtain ⟨Bx, h1, h2, h3⟩ := hs; exact ⟨Bx, h1, boxN_own Bx 91 (fun (_ : Unit) => #[.int .i64 y.sec, .int .i64 y.row, .int .i64 y.first, .int .i64 y.many]) () X Y row h2 hg (fun r e => (hr r e).2), h3⟩)
    ?assign ?body ?done ?stop
  case assign =>
    rintro l pre y W K ⟨⟨⟨⟨hq, b3⟩, b4⟩, b5⟩, hB1⟩ hK
    simp only [rwEnc]
    gi_wp2
    exact hK _ _ ((KeepsOthers.alloc _ _).from _) ((Below.refl _ W).alloc hB1.size _) ⟨⟨⟨⟨hq, b3.alloc _⟩, b4.alloc _⟩, b5.alloc _⟩, hB1.alloc hB1.size _⟩ ⟨W.heap.size, b5.lt, BoxN.new W 91 _, rfl⟩
  case body =>
    rintro l pre y a' W hl _ ⟨⟨⟨⟨hq, b3⟩, b4⟩, b5⟩, hB1⟩ ⟨Bx, hBx, bX, rfl⟩ hlt
    have cS := b3.cell 0 (.int .i64 seat) rfl
    have x0 := bX.cell 0 (.int .i64 y.sec) rfl
    have x1 := bX.cell 1 (.int .i64 y.row) rfl
    have x2 := bX.cell 2 (.int .i64 y.first) rfl
    have x3 := bX.cell 3 (.int .i64 y.many) rfl
    have HQ := Lib.hid hq
    clear hq
    by_cases q1 : y.first ≤ seat
    · by_cases q2 : seat < wrap64 (y.first + y.many)
      · have hh := Lib.hid (show hit seat y = true by simp [hit, q1, q2])
        have d0 := b4.cell 0 (.int .i64 0) rfl
        have d1 := b4.cell 1 (.int .i64 0) rfl
        have d2 := b4.cell 2 (.int .i64 0) rfl
        have d3 := b4.cell 3 (.int .i64 0) rfl
        have e0 := b5.cell 0 (.int .i64 0) rfl
        have fd0 := b4.frozen 0
        have fd1 := b4.frozen 1
        have fd2 := b4.frozen 2
        have fd3 := b4.frozen 3
        have fe0 := b5.frozen 0
        have z5 := b5.lt
        gi_wp2
        have b4' := (b4.set4 (.int .i64 y.sec) (.int .i64 y.row) (.int .i64 y.first) (.int .i64 y.many)).other (B' := w.heap.size + 1 + 1 + 1) (i := 0) (by omega) (.int .i64 0)
        have b5' := (((((b5.other (B' := w.heap.size + 1 + 1) (i := 0) (by omega) (.int .i64 y.sec)).other (B' := w.heap.size + 1 + 1) (i := 1) (by omega) (.int .i64 y.row)).other (B' := w.heap.size + 1 + 1) (i := 2) (by omega) (.int .i64 y.first)).other (B' := w.heap.size + 1 + 1) (i := 3) (by omega) (.int .i64 y.many)).set 0 (.int .i64 0))
        refine ⟨((((((KeepsOthers.setCell _ _ _).trans (KeepsOthers.setCell _ _ _)).trans (KeepsOthers.setCell _ _ _)).trans (KeepsOthers.setCell _ _ _)).trans (KeepsOthers.setCell _ _ _))).from _, ⟨⟨rfl, pre, y, rfl, HQ.out, hh.out, b4'⟩, b5'⟩, ?_⟩
        exact ((((hB1.setCell (p := ⟨w.heap.size + 1 + 1, 0, none⟩) (by simp; omega) _).setCell (p := ⟨w.heap.size + 1 + 1, 1, none⟩) (by simp; omega) _).setCell (p := ⟨w.heap.size + 1 + 1, 2, none⟩) (by simp; omega) _).setCell (p := ⟨w.heap.size + 1 + 1, 3, none⟩) (by simp; omega) _).setCell (p := ⟨w.heap.size + 1 + 1 + 1, 0, none⟩) (by simp; omega) _
      · have hh := Lib.hid (show hit seat y = false by simp [hit, q2])
        gi_wp2
        exact ⟨(KeepsOthers.refl _).from _, Below.refl _ _, ⟨⟨⟨fun z hz => by rcases List.mem_append.1 hz with hz | hz; exact HQ.out z hz; rw [List.mem_singleton.1 hz]; exact hh.out, b3⟩, b4⟩, b5⟩, hB1⟩
    · have hh := Lib.hid (show hit seat y = false by simp [hit, q1])
      gi_wp2
      exact ⟨(KeepsOthers.refl _).from _, Below.refl _ _, ⟨⟨⟨fun z hz => by rcases List.mem_append.1 hz with hz | hz; exact HQ.out z hz; rw [List.mem_singleton.1 hz]; exact hh.out, b3⟩, b4⟩, b5⟩, hB1⟩
  case done =>
    rintro D zs W hD rfl ⟨⟨⟨⟨hq, b3⟩, b4⟩, b5⟩, hB1⟩ hK
    have hF := Lib.hid (show findV x seat = (noRw, 4) by
      rw [hE.out, if_neg (by simp), List.find?_eq_none.2 (fun z hz => by rw [hq z hz]; simp)])
    have d0 := b4.cell 0 (.int .i64 0) rfl
    have d1 := b4.cell 1 (.int .i64 0) rfl
    have d2 := b4.cell 2 (.int .i64 0) rfl
    have d3 := b4.cell 3 (.int .i64 0) rfl
    have e0 := b5.cell 0 (.int .i64 0) rfl
    have fd0 := b4.frozen 0
    have fd1 := b4.frozen 1
    have fd2 := b4.frozen 2
    have fd3 := b4.frozen 3
    have fe0 := b5.frozen 0
    have z5 := b5.lt
    clear hq
    gi_wp2
    have b4' := (b4.set4 (.int .i64 0) (.int .i64 0) (.int .i64 0) (.int .i64 0)).other (B' := w.heap.size + 1 + 1 + 1) (i := 0) (by omega) (.int .i64 4)
    have b5' := (((((b5.other (B' := w.heap.size + 1 + 1) (i := 0) (by omega) (.int .i64 0)).other (B' := w.heap.size + 1 + 1) (i := 1) (by omega) (.int .i64 0)).other (B' := w.heap.size + 1 + 1) (i := 2) (by omega) (.int .i64 0)).other (B' := w.heap.size + 1 + 1) (i := 3) (by omega) (.int .i64 0)).set 0 (.int .i64 4))
    have hKO := ((((KeepsOthers.setCell W ⟨w.heap.size + 1 + 1, 0, none⟩ (.int .i64 0)).trans (KeepsOthers.setCell _ ⟨w.heap.size + 1 + 1, 1, none⟩ (.int .i64 0))).trans (KeepsOthers.setCell _ ⟨w.heap.size + 1 + 1, 2, none⟩ (.int .i64 0))).trans (KeepsOthers.setCell _ ⟨w.heap.size + 1 + 1, 3, none⟩ (.int .i64 0))).trans (KeepsOthers.setCell _ ⟨w.heap.size + 1 + 1 + 1, 0, none⟩ (.int .i64 4))
    have hK' := hKO.same D _ hK rfl
    have hB := ((((hB1.setCell (p := ⟨w.heap.size + 1 + 1, 0, none⟩) (by simp; omega) (.int .i64 0)).setCell (p := ⟨w.heap.size + 1 + 1, 1, none⟩) (by simp; omega) (.int .i64 0)).setCell (p := ⟨w.heap.size + 1 + 1, 2, none⟩) (by simp; omega) (.int .i64 0)).setCell (p := ⟨w.heap.size + 1 + 1, 3, none⟩) (by simp; omega) (.int .i64 0)).setCell (p := ⟨w.heap.size + 1 + 1 + 1, 0, none⟩) (by simp; omega) (.int .i64 4)
    refine ⟨by simp, .inl ⟨_, _, rfl, run_takeDeferred hK', ?_⟩⟩
    have g (i : Nat) (u : Value) (hu : #[.int .i64 0, .int .i64 0, .int .i64 0, .int .i64 0][i]? = some u) := cell_kept (b4'.cell i u hu) (grownBy_putObj' _ D (.deferred none)) (fun r e => by cases e; exact ⟨_, hK', rfl⟩)
    have g0 := g 0 (.int .i64 0) rfl
    have g1 := g 1 (.int .i64 0) rfl
    have g2 := g 2 (.int .i64 0) rfl
    have g3 := g 3 (.int .i64 0) rfl
    have g4 := cell_kept (b5'.cell 0 (.int .i64 4) rfl) (grownBy_putObj' _ D (.deferred none)) (fun r e => by cases e; exact ⟨_, hK', rfl⟩)
    exact ⟨.tuple #[.agg #[.int .i64 0, .int .i64 0, .int .i64 0, .int .i64 0], .int .i64 4], by simp [results, Tryz.results89, go_sem, g0, g1, g2, g3, g4], by rw [hF.out]; rfl, hB.trans (belowK_b (w := w) (Nat.le_refl _) _ D _ _ (by omega) hK' rfl rfl)⟩
  case stop =>
    rintro D c pre W hD hpre ⟨⟨⟨rfl, q, y, rfl, hq, hy, b4⟩, b5⟩, hB1⟩ hK
    have hF := Lib.hid (show findV x seat = (y, 0) by
      obtain ⟨r, hr⟩ := hpre
      rw [hE.out, if_neg (by simp), ← hr, List.append_assoc, List.find?_append, List.find?_eq_none.2 (fun z hz => by rw [hq z hz]; simp)]
      simp [hy])
    clear hq hy hpre
    gi_wp2
    refine ⟨by simp, .inl ⟨_, _, rfl, run_takeDeferred hK, ?_⟩⟩
    have g (i : Nat) (u : Value) (hu : #[.int .i64 y.sec, .int .i64 y.row, .int .i64 y.first, .int .i64 y.many][i]? = some u) := cell_kept (b4.cell i u hu) (grownBy_putObj' _ D (.deferred none)) (fun r e => by cases e; exact ⟨_, hK, rfl⟩)
    have g0 := g 0 (.int .i64 y.sec) rfl
    have g1 := g 1 (.int .i64 y.row) rfl
    have g2 := g 2 (.int .i64 y.first) rfl
    have g3 := g 3 (.int .i64 y.many) rfl
    have g4 := cell_kept (b5.cell 0 (.int .i64 0) rfl) (grownBy_putObj' _ D (.deferred none)) (fun r e => by cases e; exact ⟨_, hK, rfl⟩)
    exact ⟨.tuple #[.agg #[.int .i64 y.sec, .int .i64 y.row, .int .i64 y.first, .int .i64 y.many], .int .i64 0], by simp [results, Tryz.results89, go_sem, g0, g1, g2, g3, g4], by rw [hF.out], hB1.trans (belowK_b (w := w) (Nat.le_refl _) _ D _ _ (by omega) hK rfl rfl)⟩
end Go.Proofs.YtcomfhigbjkoeaaGreatDoor
