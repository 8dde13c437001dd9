/-
  Walk of model.New: what it makes is its own; a state that was just made, and one of its seats turned. Conditions: as each theorem says.
-/
import Derived.Test.YtinbjfkkpcpokaaGreatDoorLmE
import Derived.Deep.CutRange
namespace Go.Proofs.YtinbjfkkpcpokaaGreatDoor
open Go.RowKit

/-- What New makes is its own. -/
def NewPost2 (w : World) (x : Ve) (V : Option Addr) (vc : Nat) (e : Ending) (w' : World) : Prop := ∃ F, e = .returned (.tuple #[mdV F (newM x).1, .int .i64 (newM x).2]) ∧ Below w.heap.size w w' ∧ IsMd w' F (newM x).1 ∧
  ((newM x).2 = 0 → F.V = V ∧ F.vc = vc ∧ ∃ g h, F.A = some ⟨g, 0, none⟩ ∧ F.Q = some ⟨h, 0, none⟩ ∧ Own sxR 52 w.heap.size w' (.slice (some ⟨g, 0, none⟩) (newM x).1.seats.length F.ac) (newM x).1.seats ∧ Own quR 75 w.heap.size w' (.slice (some ⟨h, 0, none⟩) (newM x).1.qs.length F.qc) (newM x).1.qs)

set_option maxRecDepth 20000 in
set_option maxHeartbeats 4000000 in
theorem new2_any {W : World} {V : Option Addr} {vc : Nat} {x : Ve} (hv : Sl secR W (.slice V x.secs.length vc) x.secs) (h1 : Bd x.shards) (h2 : Bd x.ttl) (h3 : Bd x.session) :
    Calls Tryz.prog 24 #[.agg #[.int .i64 x.shards, .int .i64 x.ttl, .int .i64 x.session, .slice V x.secs.length vc]] W (NewPost2 W x V vc) := by
  have C1 := Lib.hid (fun w (hw : Below W.heap.size W w) => seats_any _ x w ⟨V, vc, rfl, hv.up hw, h1, h2, h3⟩)
  have hT := Lib.hid (show newM x = if (seatsV x).2 ≠ 0 then (zeroMd, (seatsV x).2) else (⟨x, 0, List.replicate (seatsV x).1.toNat zeroSx, List.replicate x.secs.length []⟩, 0) from rfl)
  have hok := Lib.hid (show (seatsV x).2 = 0 → 0 ≤ (seatsV x).1 ∧ (seatsV x).1 ≤ 4096 ∧ x.secs.length ≤ 8 by
    intro h
    unfold seatsV at h ⊢
    by_cases hc : (checkV x).2 ≠ 0
    · rw [if_pos hc] at h; exact absurd h hc
    · rw [if_neg hc]
      have h4 := checkV_ok (Decidable.not_not.1 hc)
      refine ⟨?_, h4.2.1, h4.1.1⟩
      have h5 := upTo_bd (k := x.secs.length) (Nat.le_refl _) fun i hi _ => h4.1.2 i hi
      have h6 : upTo x.secs x.secs.length = sum (allRows x) := by simp [upTo, allRows]
      omega)
  have hx := Lib.hid (show Sl secR W (.slice V x.secs.length vc) x.secs from hv)
  generalize seatsV x = E at C1 hT hok
  obtain ⟨n, e⟩ := E
  simp only at C1 hT hok
  have hbd := Lib.hid (And.intro h1 (And.intro h2 h3))
  clear hv h1 h2 h3
  go_enter Tryz.func24, Tryz.ntmps24
  go_wp2_with fail
  refine (C1.out _ (bal (ba _ _))).mono ?_
  rintro e1 w1 ⟨rfl, hb⟩
  have HB := Lib.hid ((bal (ba W _)).trans (hb.mono (bal (ba W _)).size))
  have k1 := ((Cells.new W [.int .i64 x.shards, .int .i64 x.ttl, .int .i64 x.session, .slice V x.secs.length vc] 25).alloc (.cells #[.int .i64 0, .int .i64 0, .int .i64 0, .slice none 0 0, .int .i64 0, .slice none 0 0, .slice none 0 0] 29)).later hb
  have k2 := (Cells.new (W.alloc (.cells #[.int .i64 x.shards, .int .i64 x.ttl, .int .i64 x.session, .slice V x.secs.length vc] 25)) [.int .i64 0, .int .i64 0, .int .i64 0, .slice none 0 0, .int .i64 0, .slice none 0 0, .slice none 0 0] 29).later hb
  rw [World.size_alloc] at k2
  have K1 := Lib.hid k1
  have K2 := Lib.hid k2
  have d0 := k2.c 0 _ rfl
  have f0 := k2.f 0
  have d1 := k2.c 1 _ rfl
  have f1 := k2.f 1
  have d2 := k2.c 2 _ rfl
  have f2 := k2.f 2
  have d3 := k2.c 3 _ rfl
  have f3 := k2.f 3
  have d4 := k2.c 4 _ rfl
  have f4 := k2.f 4
  have d5 := k2.c 5 _ rfl
  have f5 := k2.f 5
  have d6 := k2.c 6 _ rfl
  have f6 := k2.f 6
  have c0 := k1.c 0 _ rfl
  have c1 := k1.c 1 _ rfl
  have c2 := k1.c 2 _ rfl
  have c3 := k1.c 3 _ rfl
  have y1 := k1.lt
  have y2 := k2.lt
  clear hb k1 k2 C1
  by_cases he : e = 0
  case neg =>
    have t0 : (e != 0) = true := by simpa using he
    have hN := Lib.hid (show newM x = (zeroMd, e) by rw [hT.out, if_pos he])
    go_wp2_with fail
    obtain ⟨k3, hg⟩ := K2.out.put [.int .i64 0, .int .i64 0, .int .i64 0, .slice none 0 0, .int .i64 0, .slice none 0 0, .slice none 0 0] rfl
    refine at_world (fun w => Below W.heap.size W w ∧ Cells w (W.heap.size + 1) [.int .i64 0, .int .i64 0, .int .i64 0, .slice none 0 0, .int .i64 0, .slice none 0 0, .slice none 0 0]) ⟨HB.out.grown hg (by have := HB.out.size; omega) (fun j hj => by injection hj with hj; omega), k3⟩ fun w2 ⟨hb2, k4⟩ => ?_
    have g0 := k4.c 0 _ rfl
    have g1 := k4.c 1 _ rfl
    have g2 := k4.c 2 _ rfl
    have g3 := k4.c 3 _ rfl
    have g4 := k4.c 4 _ rfl
    have g5 := k4.c 5 _ rfl
    have g6 := k4.c 6 _ rfl
    refine bodyPost_ret (v := .tuple #[.agg #[.int .i64 0, .int .i64 0, .int .i64 0, .slice none 0 0, .int .i64 0, .slice none 0 0, .slice none 0 0], .int .i64 e]) (by simp [results, Tryz.results24, go_sem, g0, g1, g2, g3, g4, g5, g6]) rfl ⟨⟨none, 0, none, 0, none, 0⟩, by rw [hN.out]; rfl, hb2, (by rw [hN.out]; exact ⟨Sl.none _ _, Sl.none _ _, Sl.none _ _, by simp [zeroMd, Bd], by simp [zeroMd, Bd], by simp [zeroMd, Bd], by simp [zeroMd, Bd]⟩), fun h => absurd (by rw [hN.out] at h; exact h) he⟩
  subst he
  obtain ⟨hn0, hn1, hm⟩ := hok.out rfl
  obtain ⟨k, rfl⟩ := Int.eq_ofNat_of_zero_le hn0
  have hN := Lib.hid (show newM x = (⟨x, 0, List.replicate k zeroSx, List.replicate x.secs.length []⟩, 0) by rw [hT.out, if_neg (by simp), Int.toNat_natCast])
  have hmk1 := mk_seats k (by omega)
  have hmk2 := mk_qus x.secs.length (by omega)
  clear hT hok
  go_wp2_with fail
  go_region
  all_goals clear d0 d1 d2 d3 d4 d5 d6 f0 f1 f2 f3 f4 f5 f6 c0 c1 c2 c3
  · go_wp2_with fail
    have hE := new_end1 (V := V) (vc := vc) (x := x) (g := W.heap.size + 1) (k := k) (W := W) (w1 := w1) rfl HB.out (by omega) K2.out (by omega) (by omega)
    simp only [putAt, Nat.zero_add, Nat.reduceAdd] at hE
    refine at_world (fun w => Below W.heap.size W w ∧ Cells w (W.heap.size + 1) [.int .i64 x.shards, .int .i64 x.ttl, .int .i64 x.session, .slice V x.secs.length vc, .int .i64 0, .slice (some ⟨w1.heap.size, 0, none⟩) k k, .slice (some ⟨(w1.heap.size + 1), 0, none⟩) x.secs.length x.secs.length] ∧ Own sxR 52 W.heap.size w (.slice (some ⟨w1.heap.size, 0, none⟩) k k) (List.replicate k zeroSx) ∧ Own quR 75 W.heap.size w (.slice (some ⟨(w1.heap.size + 1), 0, none⟩) x.secs.length x.secs.length) (List.replicate x.secs.length [])) hE fun w2 ⟨hb2, k4, o1, o2⟩ => ?_
    clear hE
    have g0 := k4.c 0 _ rfl
    have g1 := k4.c 1 _ rfl
    have g2 := k4.c 2 _ rfl
    have g3 := k4.c 3 _ rfl
    have g4 := k4.c 4 _ rfl
    have g5 := k4.c 5 _ rfl
    have g6 := k4.c 6 _ rfl
    refine bodyPost_ret (v := .tuple #[.agg #[.int .i64 x.shards, .int .i64 x.ttl, .int .i64 x.session, .slice V x.secs.length vc, .int .i64 0, .slice (some ⟨w1.heap.size, 0, none⟩) k k, .slice (some ⟨(w1.heap.size + 1), 0, none⟩) x.secs.length x.secs.length], .int .i64 0]) (by simp [results, Tryz.results24, go_sem, g0, g1, g2, g3, g4, g5, g6]) rfl ⟨⟨V, vc, some ⟨w1.heap.size, 0, none⟩, k, some ⟨(w1.heap.size + 1), 0, none⟩, x.secs.length⟩, ?_, hb2, ?_, fun _ => ⟨rfl, rfl, _, _, rfl, rfl, ?_, ?_⟩⟩
    · rw [hN.out]; simp [mdV]
    · rw [hN.out]
      have q1 := o1.sl
      have q2 := o2.sl
      exact ⟨hx.out.up hb2, by simpa using q1, by simpa using q2, hbd.out.1, hbd.out.2.1, hbd.out.2.2, by simp [Bd]⟩
    · rw [hN.out]; simpa using o1
    · rw [hN.out]; simpa using o2
  · go_wp2_with fail
    have hE := new_end2 (V := V) (vc := vc) (x := x) (g := W.heap.size + 1) (k := k) (W := W) (w1 := w1) rfl HB.out (by omega) K2.out (by omega) (by omega)
    simp only [putAt, Nat.zero_add, Nat.reduceAdd] at hE
    refine at_world (fun w => Below W.heap.size W w ∧ Cells w (W.heap.size + 1) [.int .i64 x.shards, .int .i64 x.ttl, .int .i64 x.session, .slice V x.secs.length vc, .int .i64 0, .slice (some ⟨(w1.heap.size + 1), 0, none⟩) k k, .slice (some ⟨w1.heap.size, 0, none⟩) x.secs.length x.secs.length] ∧ Own sxR 52 W.heap.size w (.slice (some ⟨(w1.heap.size + 1), 0, none⟩) k k) (List.replicate k zeroSx) ∧ Own quR 75 W.heap.size w (.slice (some ⟨w1.heap.size, 0, none⟩) x.secs.length x.secs.length) (List.replicate x.secs.length [])) hE fun w2 ⟨hb2, k4, o1, o2⟩ => ?_
    clear hE
    have g0 := k4.c 0 _ rfl
    have g1 := k4.c 1 _ rfl
    have g2 := k4.c 2 _ rfl
    have g3 := k4.c 3 _ rfl
    have g4 := k4.c 4 _ rfl
    have g5 := k4.c 5 _ rfl
    have g6 := k4.c 6 _ rfl
    refine bodyPost_ret (v := .tuple #[.agg #[.int .i64 x.shards, .int .i64 x.ttl, .int .i64 x.session, .slice V x.secs.length vc, .int .i64 0, .slice (some ⟨(w1.heap.size + 1), 0, none⟩) k k, .slice (some ⟨w1.heap.size, 0, none⟩) x.secs.length x.secs.length], .int .i64 0]) (by simp [results, Tryz.results24, go_sem, g0, g1, g2, g3, g4, g5, g6]) rfl ⟨⟨V, vc, some ⟨(w1.heap.size + 1), 0, none⟩, k, some ⟨w1.heap.size, 0, none⟩, x.secs.length⟩, ?_, hb2, ?_, fun _ => ⟨rfl, rfl, _, _, rfl, rfl, ?_, ?_⟩⟩
    · rw [hN.out]; simp [mdV]
    · rw [hN.out]
      have q1 := o1.sl
      have q2 := o2.sl
      exact ⟨hx.out.up hb2, by simpa using q1, by simpa using q2, hbd.out.1, hbd.out.2.1, hbd.out.2.2, by simp [Bd]⟩
    · rw [hN.out]; simpa using o1
    · rw [hN.out]; simpa using o2

theorem sl_empty {α : Type} {R : Rep α} {W Y : World} {v : Value} (h : Sl R W v []) (hs : W.heap.size ≤ Y.heap.size) : Sl R Y v [] := by
  obtain ⟨A, c, e, hc, hm, h⟩ := h
  refine ⟨A, c, e, hc, hm, ?_⟩
  rcases h with h | ⟨b, off, hA, hb, _⟩
  · exact .inl h
  · exact .inr ⟨b, off, hA, Nat.lt_of_lt_of_le hb hs, fun i x hi => by simp at hi⟩
theorem qus_same {W Y : World} (hs : W.heap.size ≤ Y.heap.size) : ∀ {qs : List (List Int)} {cells : List Value}, (∀ l, l ∈ qs → l = []) → quR.many W cells qs → quR.many Y cells qs
  | [], _, _, h => h
  | l :: qs, _, he, ⟨cs, rest, e, ⟨A, c, h1, h2⟩, h3⟩ => by
    obtain rfl := he l (by simp)
    exact ⟨cs, rest, e, ⟨A, c, h1, sl_empty h2 hs⟩, qus_same hs (fun l hl => he l (by simp [hl])) h3⟩
/-- A state whose memory is all new but the venue's, and whose lists are empty. -/
structure NewMem (w0 W : World) (F : MFrm) (g h : Nat) (s : Md) : Prop where
  bw : Below w0.heap.size w0 W
  secs : Sl secR w0 (.slice F.V s.ve.secs.length F.vc) s.ve.secs
  fa : F.A = some ⟨g, 0, none⟩
  fq : F.Q = some ⟨h, 0, none⟩
  ss : Own sxR 52 w0.heap.size W (.slice (some ⟨g, 0, none⟩) s.seats.length F.ac) s.seats
  qs : Own quR 75 w0.heap.size W (.slice (some ⟨h, 0, none⟩) s.qs.length F.qc) s.qs
  nil : ∀ l, l ∈ s.qs → l = []
  bv : Bd s.ve.shards ∧ Bd s.ve.ttl ∧ Bd s.ve.session
  bn : Bd s.now
theorem NewMem.keep {w0 W : World} {F : MFrm} {g h : Nat} {s : Md} (m : NewMem w0 W F g h s) : MdKeep w0.heap.size W F s := fun Y hY => by
  have hb : Below w0.heap.size w0 Y := ⟨hY.os.trans m.bw.os, hY.tape.trans m.bw.tape, hY.output.trans m.bw.output, Nat.le_trans m.bw.size hY.size, fun k hk => (hY.old k (Nat.lt_of_lt_of_le hk m.bw.size) hk).trans (m.bw.block k hk)⟩
  refine ⟨m.secs.up hb, ?_, ?_, m.bv.1, m.bv.2.1, m.bv.2.2, m.bn⟩
  · rw [m.fa]
    exact (m.ss.same (fun k hk => hY.seats k (by cases hk; exact Tag.of_own m.ss)) sxR_flat).sl
  · rw [m.fq]
    have ht := Tag.of_own m.qs
    obtain ⟨cells, ho, hm⟩ := m.qs
    have h2 : Own quR 75 w0.heap.size Y (.slice (some ⟨h, 0, none⟩) s.qs.length F.qc) s.qs := by
      refine ⟨cells, ⟨ho.1, ?_⟩, qus_same hY.size m.nil hm⟩
      rcases ho.2 with h3 | ⟨g', cap, cur, hv, hB, hg, r⟩
      · exact .inl h3
      · refine .inr ⟨g', cap, cur, hv, hB, ?_, r⟩
        have e : g' = h := by injection hv with hv; injection hv with hv; injection hv with hv; exact hv.symm
        subst e
        exact (hY.lists _ ht).trans hg
    exact h2.sl
theorem NewMem.up {w0 W X : World} {F : MFrm} {g h : Nat} {s : Md} (m : NewMem w0 W F g h s) (hb : Below W.heap.size W X) : NewMem w0 X F g h s :=
  ⟨m.bw.trans (hb.mono m.bw.size), m.secs, m.fa, m.fq, m.ss.up hb, m.qs.up hb, m.nil, m.bv, m.bn⟩
/-- A box of another type is written. -/
theorem NewMem.box {w0 W X : World} {F : MFrm} {g h x : Nat} {s : Md} {t : TypeId} (m : NewMem w0 W F g h s) (hg : W.grownBy X (some x)) (hx : Tag W x t) (hl : w0.heap.size ≤ x) (n2 : t ≠ 52) (n3 : t ≠ 75) (n4 : t ≠ 30) : NewMem w0 X F g h s := by
  have hk := Loose.grown (lo := w0.heap.size) hg hx hl n2 n3 n4
  have ht := Tag.of_own m.qs
  refine ⟨m.bw.grown hg m.bw.size (fun j hj => by injection hj with hj; omega), m.secs, m.fa, m.fq, m.ss.same (fun k hk' => hk.seats k (by cases hk'; exact Tag.of_own m.ss)) sxR_flat, ?_, m.nil, m.bv, m.bn⟩
  obtain ⟨cells, ho, hm⟩ := m.qs
  refine ⟨cells, ⟨ho.1, ?_⟩, qus_same hk.size m.nil hm⟩
  rcases ho.2 with h3 | ⟨g', cap, cur, hv, hB, hg, r⟩
  · exact .inl h3
  · refine .inr ⟨g', cap, cur, hv, hB, ?_, r⟩
    have e : g' = h := by injection hv with hv; injection hv with hv; injection hv with hv; exact hv.symm
    subst e
    exact (hk.lists _ ht).trans hg
/-- A seat turned in memory. -/
theorem NewMem.set {w0 W : World} {F : MFrm} {g h : Nat} {s : Md} (m : NewMem w0 W F g h s) {k : Nat} (hk : k < s.seats.length) {x : Sx} (hx : SxOk x) : NewMem w0 (putAt W g (k * 5) (sxCells x)) F g h (setM s k x) ∧ W.grownBy (putAt W g (k * 5) (sxCells x)) (some g) := by
  obtain ⟨h1, hg⟩ := m.ss.put hk (x := x) (cs := sxCells x) ⟨rfl, hx⟩ (fun _ _ _ _ h => h)
  have hb := m.ss.block
  have ht := Tag.of_own m.qs
  have hne : h ≠ g := ht.ne (Tag.of_own m.ss) (by decide)
  refine ⟨⟨m.bw.grown hg m.bw.size (fun j hj => by injection hj with hj; omega), m.secs, m.fa, m.fq, ?_, ?_, m.nil, m.bv, m.bn⟩, hg⟩
  · have h2 : Own sxR 52 w0.heap.size (putAt W g (k * 5) (sxCells x)) (.slice (some ⟨g, 0, none⟩) s.seats.length F.ac) (s.seats.set k x) := h1
    simpa [setM] using h2
  obtain ⟨cells, ho, hm⟩ := m.qs
  refine ⟨cells, ⟨ho.1, ?_⟩, qus_same hg.size m.nil hm⟩
  rcases ho.2 with h3 | ⟨g', cap, cur, hv, hB, hg', r⟩
  · exact .inl h3
  · refine .inr ⟨g', cap, cur, hv, hB, ?_, r⟩
    have e : g' = h := by injection hv with hv; injection hv with hv; injection hv with hv; exact hv.symm
    subst e
    exact (hg.block _ ht.lt (fun e => hne (by injection e))).trans hg'
end Go.Proofs.YtinbjfkkpcpokaaGreatDoor
