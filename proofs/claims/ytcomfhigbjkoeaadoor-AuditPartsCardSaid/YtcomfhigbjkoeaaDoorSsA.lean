/-
  Walks of groundlingref15.Same and groundlingref32.SameState at equal arguments. Conditions: as each theorem says.
-/
import Derived.Test.YtcomfhigbjkoeaaDoorNmC
import Derived.BigRegion
import Derived.Deep.CutRange
namespace Go.Proofs.YtcomfhigbjkoeaaDoor
open Go.RowKit

theorem Cells.newR (w : World) (cs : List Value) (t : TypeId) (g : Nat) (hg : g = w.heap.size) : Cells (w.alloc (.cells cs.toArray t)) g cs := hg ▸ Cells.new w cs t

set_option maxRecDepth 100000 in
set_option maxHeartbeats 4000000 in
theorem sameVe_any {w : World} {V V' : Option Addr} {vc vc' : Nat} {x : Ve} (h : Sl secR w (.slice V x.secs.length vc) x.secs) (h' : Sl secR w (.slice V' x.secs.length vc') x.secs) :
    Calls Tryd.prog 29 #[.agg #[.int .i64 x.shards, .int .i64 x.ttl, .int .i64 x.session, .slice V x.secs.length vc], .agg #[.int .i64 x.shards, .int .i64 x.ttl, .int .i64 x.session, .slice V' x.secs.length vc']] w fun e w' => e = .returned (.bool true) ∧ Below w.heap.size w w' := by
  have HV := Lib.hid h
  have HV' := Lib.hid h'
  have hcap := h.cap
  clear h h'
  obtain ⟨sh, ttl, ses, secs⟩ := x
  dsimp only at *
  obtain ⟨cs, hcs⟩ : ∃ cs : List Value, cs = [.int .i64 sh, .int .i64 ttl, .int .i64 ses, .slice V secs.length vc] := ⟨_, rfl⟩
  obtain ⟨cs', hcs'⟩ : ∃ cs : List Value, cs = [.int .i64 sh, .int .i64 ttl, .int .i64 ses, .slice V' secs.length vc'] := ⟨_, rfl⟩
  go_enter Tryd.func29, Tryd.ntmps29
  go_wp2_with fail
  obtain ⟨q, hq⟩ : ∃ q, w.heap.size = q := ⟨_, rfl⟩
  rw [hq]
  refine at_world (fun W => Below w.heap.size w W ∧ Cells W q cs ∧ Cells W (q + 1) cs') ⟨bal (ba _ _), by rw [hcs]; exact (Cells.newR _ _ _ _ hq.symm).alloc _, by rw [hcs']; exact Cells.newR _ _ _ _ (by simp [hq])⟩ fun w1 ⟨hb1, k1, k2⟩ => ?_
  have HB1 := Lib.hid hb1
  have K1 := Lib.hid k1
  have K2 := Lib.hid k2
  have HCS := Lib.hid hcs
  have HCS' := Lib.hid hcs'
  clear hb1 k1 k2 hcs hcs' hq
  go_loopw [5] (fun iv wr => ∃ i : Nat, i ≤ secs.length ∧ iv = .int .i64 i ∧ Hid (Below w1.heap.size w1 wr)) (fun iv _ => secs.length - (intOf iv).toNat)
  case atStart => exact ⟨0, by omega, rfl, Lib.hid (Below.refl _ _)⟩
  case round =>
    obtain ⟨i, hi, rfl, D⟩ := hrel
    have D' := Lib.hid (HB1.out.trans (D.out.mono HB1.out.size))
    have k1 := K1.out.later D.out
    have k2 := K2.out.later D.out
    rw [HCS.out] at k1
    rw [HCS'.out] at k2
    have c3 := k1.c 3 _ rfl
    have e3 := k2.c 3 _ rfl
    have y0 := k1.lt
    have y1 := k2.lt
    clear k1 k2
    by_cases hlt : i < secs.length
    · obtain ⟨b, off, A, c, hA, hbl, d0, d1, d2, hin, _, _⟩ := (HV.out.up D'.out).atS hlt
      obtain ⟨b', off', A', c', hA', hbl', d0', d1', d2', hin', _, _⟩ := (HV'.out.up D'.out).atS hlt
      subst hA hA'
      have hi0 : (0 : Int) ≤ (i : Int) := by omega
      have hi1 : (i : Int) < (secs.length : Int) := by omega
      have hI := Lib.hid hin
      have hI' := Lib.hid hin'
      clear hin hin'
      generalize secs[i] = s at d0 d1 d2 d0' d1' d2' hI hI'
      obtain ⟨nm, rows, qu⟩ := s
      dsimp only at d0 d1 d2 d0' d1' d2' hI hI'
      go_wp2_with fail
      go_cut [6, 7] from 36 to 72 (fun v6 v7 W => ∃ gx gy, v6 = .pointer (some ⟨gx, 0, none⟩) ∧ v7 = .pointer (some ⟨gy, 0, none⟩) ∧ Below wr.heap.size wr W ∧ Cells W gx [.string nm, .slice A rows.length c, .int .i64 qu] ∧ Cells W gy [.string nm, .slice A' rows.length c', .int .i64 qu])
      case first => as_aux_lemma =>
        go_big_region
        all_goals (go_wp2_with fail; go_meet)
        all_goals first
          | exact ⟨_, _, rfl, rfl, bdd (bal (ba _ _)), (Cells.newR _ _ _ _ (by simp)).drew, ((Cells.newR _ _ _ _ rfl).alloc _).drew⟩
          | exact ⟨_, _, rfl, rfl, bdd (bal (ba _ _)), ((Cells.newR _ _ _ _ rfl).alloc _).drew, (Cells.newR _ _ _ _ (by simp)).drew⟩
      case rest =>
        obtain ⟨gx, gy, rfl, rfl, hb2, kx, ky⟩ := hcut
        have a0 := kx.c 0 _ rfl
        have a1 := kx.c 1 _ rfl
        have a2 := kx.c 2 _ rfl
        have b0 := ky.c 0 _ rfl
        have b1 := ky.c 1 _ rfl
        have b2 := ky.c 2 _ rfl
        have z0 := kx.lt
        have z1 := ky.lt
        have D2 := Lib.hid (D.out.trans (hb2.mono D.out.size))
        have CI := Lib.hid (ints_any (hI.out.up hb2) (hI'.out.up hb2))
        rw [show decide (rows = rows) = true by simp] at CI
        clear kx ky hb2 d0 d1 d2 d0' d1' d2' c3 e3 y0 y1
        go_wp2_with fail
        refine CI.out.mono ?_
        rintro e w3 ⟨rfl, hb3⟩
        have D3 := Lib.hid (D2.out.trans (hb3.mono D2.out.size))
        clear hb3 CI a0 a1 a2 b0 b1 b2 z0 z1
        go_wp2_with fail
        go_roundw
        case rel => exact ⟨i + 1, by omega, by go_num, D3⟩
        case measure => simp [intOf]; omega
    · obtain rfl : i = secs.length := by omega
      go_wp2_with fail
      go_ret
      exact ⟨rfl, D'.out⟩

theorem Sl.atE2 {w : World} {A : Option Addr} {n c k : Nat} {xs : List Se} (h : Sl seR w (.slice A n c) xs) (hk : k < xs.length) :
    ∃ b off, A = some ⟨b, off, .none⟩ ∧ b < w.heap.size ∧ w.cell? ⟨b, off + k * 6, .none⟩ = some (.bool xs[k].sold) ∧ w.cell? ⟨b, off + k * 6 + 1, .none⟩ = some (.bool xs[k].held) ∧ w.cell? ⟨b, off + k * 6 + 2, .none⟩ = some (.int .u32 xs[k].owner) ∧
      w.cell? ⟨b, off + k * 6 + 3, .none⟩ = some (.int .i64 xs[k].till) ∧ w.cell? ⟨b, off + k * 6 + 4, .none⟩ = some (.int .u64 xs[k].serial) ∧ w.cell? ⟨b, off + k * 6 + 5, .none⟩ = some (.int .u64 xs[k].epoch) := by
  obtain ⟨b, off, cs, rfl, hb, his, h2⟩ := h.at_ hk
  obtain ⟨rfl, _⟩ := his
  exact ⟨b, off, rfl, hb, h2 0 _ rfl, h2 1 _ rfl, h2 2 _ rfl, h2 3 _ rfl, h2 4 _ rfl, h2 5 _ rfl⟩

set_option maxRecDepth 100000 in
set_option maxHeartbeats 4000000 in
theorem sameAu_any {w : World} {F G : Frm} {s : Au} (h : IsAu w F s) (h' : IsAu w G s) : Calls Tryd.prog 20 #[auV F s, auV G s] w fun e w' => e = .returned (.bool true) ∧ Below w.heap.size w w' := by
  have HS := Lib.hid h
  have HS' := Lib.hid h'
  have hcap := h.ss.cap
  clear h h'
  unfold auV
  obtain ⟨ve, now, seats, waiting⟩ := s
  obtain ⟨V, vc, A, ac, B, bc⟩ := F
  obtain ⟨V', vc', A', ac', B', bc'⟩ := G
  dsimp only at *
  obtain ⟨cs, hcs⟩ : ∃ cs : List Value, cs = [.int .i64 ve.shards, .int .i64 ve.ttl, .int .i64 ve.session, .slice V ve.secs.length vc, .int .i64 now, .slice A seats.length ac, .slice B waiting.length bc] := ⟨_, rfl⟩
  obtain ⟨cs', hcs'⟩ : ∃ cs : List Value, cs = [.int .i64 ve.shards, .int .i64 ve.ttl, .int .i64 ve.session, .slice V' ve.secs.length vc', .int .i64 now, .slice A' seats.length ac', .slice B' waiting.length bc'] := ⟨_, rfl⟩
  have CV := Lib.hid (fun W (hb : Below w.heap.size w W) => sameVe_any (HS.out.vs.up hb) (HS'.out.vs.up hb))
  have CI := Lib.hid (fun W (hb : Below w.heap.size w W) => ints_any (HS.out.ws.up hb) (HS'.out.ws.up hb))
  rw [show decide (waiting = waiting) = true by simp] at CI
  go_enter Tryd.func20, Tryd.ntmps20
  go_wp2_with fail
  obtain ⟨q, hq⟩ : ∃ q, w.heap.size = q := ⟨_, rfl⟩
  rw [hq]
  refine at_call (fun W => Below w.heap.size w W ∧ Cells W q cs ∧ Cells W (q + 1) cs') ⟨bal (ba _ _), by rw [hcs]; exact (Cells.newR _ _ _ _ hq.symm).alloc _, by rw [hcs']; exact Cells.newR _ _ _ _ (by simp [hq])⟩ fun w1 ⟨hb1, k1, k2⟩ => ?_
  refine (CV.out _ hb1).mono ?_
  rintro e w2 ⟨rfl, hb2⟩
  have HB2 := Lib.hid (hb1.trans (hb2.mono hb1.size))
  have K1 := Lib.hid (k1.later hb2)
  have K2 := Lib.hid (k2.later hb2)
  have HCS := Lib.hid hcs
  have HCS' := Lib.hid hcs'
  clear hb1 hb2 k1 k2 hcs hcs' hq CV
  have k1 := K1.out
  have k2 := K2.out
  rw [HCS.out] at k1
  rw [HCS'.out] at k2
  have c4 := k1.c 4 _ rfl
  have c5 := k1.c 5 _ rfl
  have c6 := k1.c 6 _ rfl
  have e4 := k2.c 4 _ rfl
  have e5 := k2.c 5 _ rfl
  have e6 := k2.c 6 _ rfl
  have y0 := k1.lt
  have y1 := k2.lt
  clear k1 k2
  go_wp2_with fail
  refine (CI.out _ HB2.out).mono ?_
  rintro e w3 ⟨rfl, hb3⟩
  have HB3 := Lib.hid (HB2.out.trans (hb3.mono HB2.out.size))
  replace K1 := Lib.hid (K1.out.later hb3)
  replace K2 := Lib.hid (K2.out.later hb3)
  clear hb3 CI HB2 c4 c5 c6 e4 e5 e6 y0 y1
  go_wp2_with fail
  go_loopw [5] (fun iv wr => ∃ i : Nat, i ≤ seats.length ∧ iv = .int .i64 i ∧ Hid (Below w3.heap.size w3 wr)) (fun iv _ => seats.length - (intOf iv).toNat)
  case atStart => exact ⟨0, by omega, rfl, Lib.hid (Below.refl _ _)⟩
  case round =>
    obtain ⟨i, hi, rfl, D⟩ := hrel
    have D' := Lib.hid (HB3.out.trans (D.out.mono HB3.out.size))
    have k1 := K1.out.later D.out
    have k2 := K2.out.later D.out
    rw [HCS.out] at k1
    rw [HCS'.out] at k2
    have c5 := k1.c 5 _ rfl
    have e5 := k2.c 5 _ rfl
    have y0 := k1.lt
    have y1 := k2.lt
    clear k1 k2
    by_cases hlt : i < seats.length
    · obtain ⟨b, off, hA, hbl, d0, d1, d2, d3, d4, d5⟩ := (HS.out.ss.up D'.out).atE2 hlt
      obtain ⟨b', off', hA', hbl', d0', d1', d2', d3', d4', d5'⟩ := (HS'.out.ss.up D'.out).atE2 hlt
      dsimp only at hA hA'
      subst hA hA'
      have hi0 : (0 : Int) ≤ (i : Int) := by omega
      have hi1 : (i : Int) < (seats.length : Int) := by omega
      generalize seats[i] = s at d0 d1 d2 d3 d4 d5 d0' d1' d2' d3' d4' d5'
      obtain ⟨so, he, ow, ti, se, ep⟩ := s
      dsimp only at d0 d1 d2 d3 d4 d5 d0' d1' d2' d3' d4' d5'
      go_wp2_with fail
      go_quiet (fail)
      go_wp2_with fail
      go_roundw
      case rel => exact ⟨i + 1, by omega, by go_num, Lib.hid (bdN D.out _)⟩
      case measure => simp [intOf]; omega
    · obtain rfl : i = seats.length := by omega
      go_wp2_with fail
      go_ret
      exact ⟨rfl, D'.out⟩
end Go.Proofs.YtcomfhigbjkoeaaDoor
