/-
  Walk of the statement's function AuditOne. Conditions: as the theorem says.
-/
import Derived.Test.YtcomfhigbjkoeaaDoorPlOne
import Derived.Test.YtcomfhigbjkoeaaDoorAwA
import Derived.BigRegion
import Derived.Deep.CutRange
namespace Go.Proofs.YtcomfhigbjkoeaaDoor
open Go.RowKit

def tkCells (t : Tk) : List Value := [.int .u32 t.seat, .int .u32 t.owner, .int .u64 t.serial, .int .u64 t.epoch]

theorem st_all {w : World} {v : Value} {l : List (MOp × MRp)} (h : Sl stR w v l) : ∀ p, p ∈ l → 0 ≤ p.1.tk.seat := by
  intro p hp
  obtain ⟨j, hj, rfl⟩ := List.getElem_of_mem hp
  obtain ⟨A, c, rfl, _, _, h'⟩ := h.open
  obtain ⟨_, _, _, _, _, his, _⟩ := h'.at_ hj
  exact his.2.1.2.2.2.2.2.2.2.1.1.1

theorem st_at {w W : World} {bl off lc k : Nat} {l : List (MOp × MRp)} (h : Sl stR w (.slice (some ⟨bl, off, none⟩) l.length lc) l) (hb : Below w.heap.size w W) (hk : k < l.length) : At W bl (off + k * 21) (stCells l[k]) ∧ bl < W.heap.size ∧ OpOk l[k].1 ∧ RpOk l[k].2 := by
  obtain ⟨b2, o2, cs, hA, hbl, ⟨rfl, h1, h2⟩, hat⟩ := (h.up hb).at_ hk
  injection hA with hA
  injection hA with hA hA2
  subst hA hA2
  exact ⟨hat, hbl, h1, h2⟩

set_option maxRecDepth 100000 in
set_option maxHeartbeats 16000000 in
theorem lawOne_any {w : World} {V : Option Addr} {vc : Nat} {x : Ve} (hv : Sl secR w (.slice V x.secs.length vc) x.secs) (h1 : Bd x.shards) (h2 : Bd x.ttl) (h3 : Bd x.session) {L : Option Addr} {lc : Nat} {l : List (MOp × MRp)} (hl : Sl stR w (.slice L l.length lc) l) :
    Calls Tryd.prog 3 #[.agg #[.int .i64 x.shards, .int .i64 x.ttl, .int .i64 x.session, .slice V x.secs.length vc], .slice L l.length lc] w fun e w' => e = .returned (.bool true) ∧ Below w.heap.size w w' := by
  have hcap := hl.cap
  have CF := Lib.hid (fun W (hb : Below w.heap.size w W) => far_any (hv.up hb))
  have CC := Lib.hid (fun W (hb : Below w.heap.size w W) => auCheck_any (hv.up hb) h1 h2 h3 (hl.up hb))
  have hone := Lib.hid (fun h => one_all (x := x) (l := l) h (st_all hl))
  have HL := Lib.hid hl
  unfold FarPost at CF
  unfold CheckPost at CC
  generalize checkA x l = K at CC hone
  obtain ⟨fs, fe⟩ := K
  simp only at CC hone
  clear h1 h2 h3 hl
  obtain ⟨cs, hcs⟩ : ∃ cs : List Value, cs = [.int .i64 x.shards, .int .i64 x.ttl, .int .i64 x.session, .slice V x.secs.length vc] := ⟨_, rfl⟩
  have HCS := Lib.hid hcs
  have K0 := Lib.hid (show Cells (w.alloc (.cells #[.int .i64 x.shards, .int .i64 x.ttl, .int .i64 x.session, .slice V x.secs.length vc] 24)) w.heap.size cs from hcs ▸ Cells.new _ _ _)
  clear hcs hv
  go_enter Tryd.func3, Tryd.ntmps3
  go_wp2_with fail
  refine (CF.out _ (ba _ _)).mono ?_
  rintro e1 w1 ⟨fb, rfl, hb1⟩
  have k0 := K0.out.later hb1
  rw [HCS.out] at k0
  have c0 := k0.c 0 _ rfl
  have c1 := k0.c 1 _ rfl
  have c2 := k0.c 2 _ rfl
  have c3 := k0.c 3 _ rfl
  have y0 := k0.lt
  have HB := Lib.hid ((ba w _).trans (hb1.mono (ba w _).size))
  clear hb1 k0 CF K0
  cases fb with
  | true => as_aux_lemma =>
    go_wp2_with fail
    refine (awake_any _).mono ?_
    rintro e w2 ⟨rfl, hb⟩
    have HB2 := Lib.hid (HB.out.trans (hb.mono HB.out.size))
    clear hb
    go_wp2_with fail
    go_ret
    exact ⟨rfl, HB2.out⟩
  | false =>
  by_cases hlen : 60 < l.length
  case pos => as_aux_lemma =>
    have t0 : decide ((60 : Int) < (l.length : Int)) = true := decide_eq_true (by omega)
    go_wp2_with fail
    refine (awake_any _).mono ?_
    rintro e w2 ⟨rfl, hb⟩
    have HB2 := Lib.hid (HB.out.trans (hb.mono HB.out.size))
    clear hb
    go_wp2_with fail
    go_ret
    exact ⟨rfl, HB2.out⟩
  have t0 : decide ((60 : Int) < (l.length : Int)) = false := decide_eq_false (by omega)
  have hlen2 : l.length ≤ 60 := by omega
  clear hlen
  go_wp2_with fail
  refine (CC.out _ HB.out).mono ?_
  rintro e1 w2 ⟨A, c, rfl, _, hb2⟩
  have HB2 := Lib.hid (HB.out.trans (hb2.mono HB.out.size))
  clear hb2 CC c0 c1 c2 c3 y0 HB t0
  by_cases hfe : fe = 0
  case neg => as_aux_lemma =>
    have t1 : (fe != 0) = true := by simpa using hfe
    go_wp2_with fail
    refine (awake_any _).mono ?_
    rintro e w3 ⟨rfl, hb⟩
    have HB3 := Lib.hid (HB2.out.trans (hb.mono HB2.out.size))
    clear hb
    go_wp2_with fail
    go_ret
    exact ⟨rfl, HB3.out⟩
  subst hfe
  by_cases hfs : fs.length = 0
  case neg => as_aux_lemma =>
    have t1 : ((fs.length : Int) != 0) = true := by simpa using hfs
    go_wp2_with fail
    refine (awake_any _).mono ?_
    rintro e w3 ⟨rfl, hb⟩
    have HB3 := Lib.hid (HB2.out.trans (hb.mono HB2.out.size))
    clear hb
    go_wp2_with fail
    go_ret
    exact ⟨rfl, HB3.out⟩
  obtain rfl := List.eq_nil_of_length_eq_zero hfs
  clear hfs
  replace hone := Lib.hid (hone.out rfl)
  go_wp2_with fail
  go_loopw [7] (fun iv wr => ∃ i : Nat, i ≤ l.length ∧ iv = .int .i64 i ∧ Hid (Below w.heap.size w wr)) (fun iv _ => l.length - (intOf iv).toNat)
  case atStart => exact ⟨0, by omega, rfl, HB2⟩
  case round =>
    obtain ⟨i, hi, rfl, D⟩ := hrel
    by_cases hlt : i < l.length
    case neg => as_aux_lemma =>
      obtain rfl : i = l.length := by omega
      go_wp2_with fail
      refine (awake_any _).mono ?_
      rintro e w3 ⟨rfl, hb⟩
      have HB3 := Lib.hid (D.out.trans (hb.mono D.out.size))
      clear hb
      go_wp2_with fail
      go_ret
      exact ⟨rfl, HB3.out⟩
    have hi0 : (0 : Int) ≤ (i : Int) := by omega
    have hi1 : (i : Int) < (l.length : Int) := by omega
    obtain ⟨bl, off, cs, hA, hbl, his, hat⟩ := (HL.out.up D.out).at_ hlt
    subst hA
    obtain ⟨his, ho, hr⟩ := his
    subst his
    have HAT := Lib.hid hat
    have hat' : At wr bl (off + i * 21) (stCells l[i]) := hat
    have i0 : wr.cell? ⟨bl, off + i * 21, none⟩ = some (.int .i64 l[i].1.kind) := hat' 0 _ rfl
    have i7 := hat' 7 _ rfl
    have i8 := hat' 8 _ rfl
    have i9 := hat' 9 _ rfl
    have i10 := hat' 10 _ rfl
    have i12 := hat' 12 _ rfl
    have hon := Lib.hid (fun h9 => hone.out i hlt h9)
    clear hat hat'
    by_cases h9 : l[i].1.kind = 9
    case neg => as_aux_lemma =>
      have t1 : (l[i].1.kind != 9) = true := by simpa using h9
      go_wp2_with fail
      go_roundw
      case rel => exact ⟨i + 1, by omega, by go_num, D⟩
      case measure => simp [intOf]; omega
    have t1 : (l[i].1.kind != 9) = false := by simpa using h9
    rw [h9] at i0
    obtain ⟨T, hT⟩ : ∃ T, l[i].1.tk = T := ⟨_, rfl⟩
    obtain ⟨er, her⟩ : ∃ er, l[i].2.err = er := ⟨_, rfl⟩
    have hTb : TkOk T := hT ▸ ho.2.2.2.2.2.2.2.1
    change wr.cell? ⟨bl, off + i * 21 + 7, none⟩ = some (.int .u32 l[i].1.tk.seat) at i7
    change wr.cell? ⟨bl, off + i * 21 + 8, none⟩ = some (.int .u32 l[i].1.tk.owner) at i8
    change wr.cell? ⟨bl, off + i * 21 + 9, none⟩ = some (.int .u64 l[i].1.tk.serial) at i9
    change wr.cell? ⟨bl, off + i * 21 + 10, none⟩ = some (.int .u64 l[i].1.tk.epoch) at i10
    change wr.cell? ⟨bl, off + i * 21 + 12, none⟩ = some (.int .i64 l[i].2.err) at i12
    rw [hT] at i7 i8 i9 i10 hon
    rw [her] at i12 hon
    replace hon := Lib.hid (hon.out h9)
    have HT := Lib.hid hT
    have HER := Lib.hid her
    have HTB := Lib.hid hTb
    have hTs := hTb.1
    clear h9 hT her ho hr hTb
    go_wp2_with fail
    obtain ⟨g, hg⟩ : ∃ g, wr.heap.size = g := ⟨_, rfl⟩
    have HG := Lib.hid hg
    rw [hg]
    refine at_world (fun W => Below w.heap.size w W ∧ Cells W g (tkCells noTk) ∧ Below wr.heap.size wr W) ⟨bal D.out, Cells.new' _ _ _ _ hg.symm, ba _ _⟩ fun w3 ⟨hb3, k3, hb3'⟩ => ?_
    have HB3 := Lib.hid hb3
    have K3 := Lib.hid k3
    have HBR := Lib.hid hb3'
    clear hb3 k3 hb3' hg i0 i7 i8 i9 i10 i12
    go_loopw [9, 10] (fun sv kv wi => ∃ k : Nat, k ≤ i ∧ kv = .int .i64 k ∧ ∃ a : Tk × Bool, sv = .bool a.2 ∧ Hid (Below w.heap.size w wi) ∧ Hid (Cells wi g (tkCells a.1)) ∧ Hid (a = scanT T.seat (l.take k))) (fun _ kv _ => i - (intOf kv).toNat)
    case atStart => exact ⟨0, by omega, rfl, (noTk, false), rfl, HB3, K3, Lib.hid rfl⟩
    case round =>
      obtain ⟨k, hk, rfl, a, rfl, D3, KA, HA⟩ := hrel
      by_cases hkt : k < i
      · have hk0 : (0 : Int) ≤ (k : Int) := by omega
        have hk1 : (k : Int) < (i : Int) := by omega
        have hk2 : (k : Int) < (l.length : Int) := by omega
        obtain ⟨bl2, off2, cs2, hA2, hbl2, his2, hat2⟩ := (HL.out.up D3.out).at_ (show k < l.length by omega)
        injection hA2 with hA2
        injection hA2 with hA2 hA3
        subst hA2 hA3
        obtain ⟨his2, ho2, hr2⟩ := his2
        subst his2
        have hat' : At wr bl (off + k * 21) (stCells l[k]) := hat2
        have hsn := Lib.hid (show scanT T.seat (l.take (k + 1)) = scan1 T.seat a l[k] by rw [List.take_succ_eq_append_getElem (by omega), scan_snoc, ← HA.out])
        clear hat2
        generalize l[k] = p at hat' ho2 hr2 hsn
        obtain ⟨⟨ki, ow, ti, se, sc, n, ot, ⟨ts, tow, tse, te⟩, now⟩, ⟨er2, se2, n2, dl, ⟨us, uo, use_, ue⟩, pl⟩⟩ := p
        have d0 : wr.cell? ⟨bl, off + k * 21, none⟩ = some (.int .i64 ki) := hat' 0 _ rfl
        have d1 := hat' 1 _ rfl
        have d2 := hat' 2 _ rfl
        have d3 := hat' 3 _ rfl
        have d4 := hat' 4 _ rfl
        have d5 := hat' 5 _ rfl
        have d6 := hat' 6 _ rfl
        have d7 := hat' 7 _ rfl
        have d8 := hat' 8 _ rfl
        have d9 := hat' 9 _ rfl
        have d10 := hat' 10 _ rfl
        have d11 := hat' 11 _ rfl
        have d12 := hat' 12 _ rfl
        have d13 := hat' 13 _ rfl
        have d14 := hat' 14 _ rfl
        have d15 := hat' 15 _ rfl
        have d16 := hat' 16 _ rfl
        have d17 := hat' 17 _ rfl
        have d18 := hat' 18 _ rfl
        have d19 := hat' 19 _ rfl
        have d20 := hat' 20 _ rfl
        clear hat'
        go_wp2_with fail
        go_cut [11, 12] from 48 to 123 (fun v11 v12 W => ∃ gx gy, v11 = .pointer (some ⟨gx, 0, none⟩) ∧ v12 = .pointer (some ⟨gy, 0, none⟩) ∧ Below w.heap.size w W ∧ Cells W g (tkCells a.1) ∧ Cells W gx (opCells ⟨ki, ow, ti, se, sc, n, ot, ⟨ts, tow, tse, te⟩, now⟩) ∧ Cells W gy (rpCells ⟨er2, se2, n2, dl, ⟨us, uo, use_, ue⟩, pl⟩) ∧ g < gx ∧ g < gy)
        case first => as_aux_lemma =>
          have hgs := KA.out.lt
          go_big_region
          all_goals (go_wp2_with fail; go_meet)
          all_goals first
            | exact ⟨_, _, rfl, rfl, bdd (bal (bal D3.out)), ((KA.out.alloc _).alloc _).drew, (Cells.new' _ _ _ _ (by simp)).drew, ((Cells.new' _ _ _ _ rfl).alloc _).drew, by omega, by omega⟩
            | exact ⟨_, _, rfl, rfl, bdd (bal (bal D3.out)), ((KA.out.alloc _).alloc _).drew, ((Cells.new' _ _ _ _ rfl).alloc _).drew, (Cells.new' _ _ _ _ (by simp)).drew, by omega, by omega⟩
        case rest =>
          obtain ⟨gx, gy, rfl, rfl, hb4, k4, kop, krp, hgx, hgy⟩ := hcut
          have D4 := Lib.hid hb4
          have K4 := Lib.hid k4
          have KR := Lib.hid krp
          have b0 := kop.c 0 _ rfl
          have b3 := kop.c 3 _ rfl
          have b7 := kop.c 7 _ rfl
          have r0 := krp.c 0 _ rfl
          have r4 := krp.c 4 _ rfl
          have r5 := krp.c 5 _ rfl
          have r6 := krp.c 6 _ rfl
          have r7 := krp.c 7 _ rfl
          have a0 := k4.c 0 _ rfl
          have a1 := k4.c 1 _ rfl
          have a2 := k4.c 2 _ rfl
          have a3 := k4.c 3 _ rfl
          have q0 := k4.f 0
          have q1 := k4.f 1
          have q2 := k4.f 2
          have q3 := k4.f 3
          have z0 := k4.lt
          have z1 := kop.lt
          have z2 := krp.lt
          obtain ⟨hI, hblW, _, _⟩ := st_at HL.out hb4 hlt
          have i7 : wc.cell? ⟨bl, off + i * 21 + 7, none⟩ = some (.int .u32 l[i].1.tk.seat) := hI 7 _ rfl
          rw [HT.out] at i7
          dsimp only at b0 b3 b7 r0 r4 r5 r6 r7
          clear hb4 k4 kop krp hI hgx hgy d0 d1 d2 d3 d4 d5 d6 d7 d8 d9 d10 d11 d12 d13 d14 d15 d16 d17 d18 d19 d20
          by_cases he : er2 = 0
          case neg => as_aux_lemma =>
            have e1 : (er2 != 0) = true := by simpa using he
            have hS := Lib.hid (show scanT T.seat (l.take (k + 1)) = a by rw [hsn.out, scan1]; exact if_pos he)
            go_wp2_with fail
            go_roundw
            case rel => exact ⟨k + 1, by omega, by go_num, a, rfl, D4, K4, Lib.hid hS.out.symm⟩
            case measure => simp [intOf]; omega
          subst he
          have hgB : w.heap.size ≤ g := by have := HG.out; have := D.out.size; omega
          by_cases h56 : ki = 5 ∨ ki = 6
          case pos =>
            by_cases hus : us = T.seat
            case pos =>
              subst hus
              have hS := Lib.hid (show scanT T.seat (l.take (k + 1)) = (⟨T.seat, uo, use_, ue⟩, true) by rw [hsn.out]; simp [scan1, h56])
              have t2 : (T.seat == T.seat) = true := by simp
              rcases h56 with rfl | rfl
              · as_aux_lemma =>
                go_wp2_with fail
                go_quiet (fail)
                clear a0 a1 a2 a3 q0 q1 q2 q3 r0 r4 r5 r6 r7 b0 b3 b7 z0 z1 z2
                refine at_world (fun W => Below w.heap.size w W ∧ Cells W g (tkCells a.1) ∧ Cells W gy (rpCells ⟨0, se2, n2, dl, ⟨T.seat, uo, use_, ue⟩, pl⟩)) ⟨bdN D4.out _, K4.out.drewN _, KR.out.drewN _⟩ fun W5 ⟨hb5, k5, kr5⟩ => ?_
                have r4 := kr5.c 4 _ rfl
                have r5 := kr5.c 5 _ rfl
                have r6 := kr5.c 6 _ rfl
                have r7 := kr5.c 7 _ rfl
                have a0 := k5.c 0 _ rfl
                have a1 := k5.c 1 _ rfl
                have a2 := k5.c 2 _ rfl
                have a3 := k5.c 3 _ rfl
                have q0 := k5.f 0
                have q1 := k5.f 1
                have q2 := k5.f 2
                have q3 := k5.f 3
                have z0 := k5.lt
                have z2 := kr5.lt
                have D5 := Lib.hid hb5
                have K5 := Lib.hid k5
                dsimp only at r4 r5 r6 r7
                clear hb5 k5 kr5
                go_wp2_with fail
                go_roundw
                case rel => exact ⟨k + 1, by omega, by go_num, (⟨T.seat, uo, use_, ue⟩, true), rfl, Lib.hid (((((D5.out).setCell (p := ⟨g, 0, none⟩) hgB _).setCell (p := ⟨g, 1, none⟩) hgB _).setCell (p := ⟨g, 2, none⟩) hgB _).setCell (p := ⟨g, 3, none⟩) hgB _), Lib.hid (Cells.putMany (tkCells ⟨T.seat, uo, use_, ue⟩) 0 K5.out), Lib.hid hS.out.symm⟩
                case measure => simp [intOf]; omega
              · as_aux_lemma =>
                go_wp2_with fail
                go_quiet (fail)
                clear a0 a1 a2 a3 q0 q1 q2 q3 r0 r4 r5 r6 r7 b0 b3 b7 z0 z1 z2
                refine at_world (fun W => Below w.heap.size w W ∧ Cells W g (tkCells a.1) ∧ Cells W gy (rpCells ⟨0, se2, n2, dl, ⟨T.seat, uo, use_, ue⟩, pl⟩)) ⟨bdN D4.out _, K4.out.drewN _, KR.out.drewN _⟩ fun W5 ⟨hb5, k5, kr5⟩ => ?_
                have r4 := kr5.c 4 _ rfl
                have r5 := kr5.c 5 _ rfl
                have r6 := kr5.c 6 _ rfl
                have r7 := kr5.c 7 _ rfl
                have a0 := k5.c 0 _ rfl
                have a1 := k5.c 1 _ rfl
                have a2 := k5.c 2 _ rfl
                have a3 := k5.c 3 _ rfl
                have q0 := k5.f 0
                have q1 := k5.f 1
                have q2 := k5.f 2
                have q3 := k5.f 3
                have z0 := k5.lt
                have z2 := kr5.lt
                have D5 := Lib.hid hb5
                have K5 := Lib.hid k5
                dsimp only at r4 r5 r6 r7
                clear hb5 k5 kr5
                go_wp2_with fail
                go_roundw
                case rel => exact ⟨k + 1, by omega, by go_num, (⟨T.seat, uo, use_, ue⟩, true), rfl, Lib.hid (((((D5.out).setCell (p := ⟨g, 0, none⟩) hgB _).setCell (p := ⟨g, 1, none⟩) hgB _).setCell (p := ⟨g, 2, none⟩) hgB _).setCell (p := ⟨g, 3, none⟩) hgB _), Lib.hid (Cells.putMany (tkCells ⟨T.seat, uo, use_, ue⟩) 0 K5.out), Lib.hid hS.out.symm⟩
                case measure => simp [intOf]; omega
            case neg =>
              have hS := Lib.hid (show scanT T.seat (l.take (k + 1)) = a by rw [hsn.out]; simp [scan1, h56, hus])
              have t2 : (us == T.seat) = false := by simpa using hus
              rcases h56 with rfl | rfl
              · as_aux_lemma =>
                go_wp2_with fail
                go_quiet (fail)
                go_wp2_with fail
                go_roundw
                case rel => exact ⟨k + 1, by omega, by go_num, a, rfl, Lib.hid (bdN D4.out _), Lib.hid (K4.out.drewN _), Lib.hid hS.out.symm⟩
                case measure => simp [intOf]; omega
              · as_aux_lemma =>
                go_wp2_with fail
                go_quiet (fail)
                go_wp2_with fail
                go_roundw
                case rel => exact ⟨k + 1, by omega, by go_num, a, rfl, Lib.hid (bdN D4.out _), Lib.hid (K4.out.drewN _), Lib.hid hS.out.symm⟩
                case measure => simp [intOf]; omega
          case neg =>
          have t5 : (ki == 5) = false := by simp; omega
          have t6 : (ki == 6) = false := by simp; omega
          by_cases h7 : ki = 7
          case pos =>
            subst h7
            by_cases hts : ts = T.seat
            case pos => as_aux_lemma =>
              have hS := Lib.hid (show scanT T.seat (l.take (k + 1)) = (a.1, false) by rw [hsn.out]; simp [scan1, hts])
              have t2 : (ts == T.seat) = true := by simpa using hts
              clear h56 t5 t6
              go_wp2_with fail
              go_quiet (fail)
              go_wp2_with fail
              go_roundw
              case rel => exact ⟨k + 1, by omega, by go_num, (a.1, false), rfl, Lib.hid (bdN D4.out _), Lib.hid (K4.out.drewN _), Lib.hid hS.out.symm⟩
              case measure => simp [intOf]; omega
            case neg => as_aux_lemma =>
              have hS := Lib.hid (show scanT T.seat (l.take (k + 1)) = a by rw [hsn.out]; simp [scan1, hts])
              have t2 : (ts == T.seat) = false := by simpa using hts
              clear h56 t5 t6
              go_wp2_with fail
              go_quiet (fail)
              go_wp2_with fail
              go_roundw
              case rel => exact ⟨k + 1, by omega, by go_num, a, rfl, Lib.hid (bdN D4.out _), Lib.hid (K4.out.drewN _), Lib.hid hS.out.symm⟩
              case measure => simp [intOf]; omega
          case neg =>
          have t7 : (ki == 7) = false := by simpa using h7
          by_cases h8 : ki = 8
          case pos =>
            subst h8
            have hT1 : 0 ≤ T.seat := HTB.out.1.1
            have hT2 : T.seat ≤ 4294967295 := HTB.out.1.2
            have hTw : IntKind.i64.wrap T.seat = T.seat := IntWalk.i64_in _ (by omega)
            by_cases hts : se = T.seat
            case pos => as_aux_lemma =>
              have hS := Lib.hid (show scanT T.seat (l.take (k + 1)) = (a.1, false) by rw [hsn.out]; simp [scan1, hts])
              have t2 : (se == T.seat) = true := by simpa using hts
              clear h56 t5 t6 h7 t7
              go_wp2_with fail
              go_quiet (fail)
              go_wp2_with fail
              go_roundw
              case rel => exact ⟨k + 1, by omega, by go_num, (a.1, false), rfl, Lib.hid (bdN D4.out _), Lib.hid (K4.out.drewN _), Lib.hid hS.out.symm⟩
              case measure => simp [intOf]; omega
            case neg => as_aux_lemma =>
              have hS := Lib.hid (show scanT T.seat (l.take (k + 1)) = a by rw [hsn.out]; simp [scan1, hts])
              have t2 : (se == T.seat) = false := by simpa using hts
              clear h56 t5 t6 h7 t7
              go_wp2_with fail
              go_quiet (fail)
              go_wp2_with fail
              go_roundw
              case rel => exact ⟨k + 1, by omega, by go_num, a, rfl, Lib.hid (bdN D4.out _), Lib.hid (K4.out.drewN _), Lib.hid hS.out.symm⟩
              case measure => simp [intOf]; omega
          case neg => as_aux_lemma =>
            have t8 : (ki == 8) = false := by simpa using h8
            have hS := Lib.hid (show scanT T.seat (l.take (k + 1)) = a by rw [hsn.out]; simp [scan1, h56, h7, h8])
            go_wp2_with fail
            go_quiet (fail)
            go_wp2_with fail
            go_roundw
            case rel => exact ⟨k + 1, by omega, by go_num, a, rfl, Lib.hid (bdN D4.out _), Lib.hid (K4.out.drewN _), Lib.hid hS.out.symm⟩
            case measure => simp [intOf]; omega
      · obtain rfl : k = i := by omega
        have hsh := hon.out
        rw [← HA.out] at hsh
        have k4 := KA.out
        have a0 := k4.c 0 _ rfl
        have a1 := k4.c 1 _ rfl
        have a2 := k4.c 2 _ rfl
        have a3 := k4.c 3 _ rfl
        have z0 := k4.lt
        obtain ⟨hI, hblW, _, _⟩ := st_at HL.out D3.out hlt
        have i7 : wr.cell? ⟨bl, off + k * 21 + 7, none⟩ = some (.int .u32 l[k].1.tk.seat) := hI 7 _ rfl
        have i8 : wr.cell? ⟨bl, off + k * 21 + 8, none⟩ = some (.int .u32 l[k].1.tk.owner) := hI 8 _ rfl
        have i9 : wr.cell? ⟨bl, off + k * 21 + 9, none⟩ = some (.int .u64 l[k].1.tk.serial) := hI 9 _ rfl
        have i10 : wr.cell? ⟨bl, off + k * 21 + 10, none⟩ = some (.int .u64 l[k].1.tk.epoch) := hI 10 _ rfl
        have i12 : wr.cell? ⟨bl, off + k * 21 + 12, none⟩ = some (.int .i64 l[k].2.err) := hI 12 _ rfl
        rw [HT.out] at i7 i8 i9 i10
        rw [HER.out] at i12
        clear hI k4
        obtain ⟨at_, ab⟩ := a
        dsimp only at a0 a1 a2 a3 hsh ⊢
        cases ab with
        | false => as_aux_lemma =>
          have t2 : (er == 0) = false := by simpa [showsA] using hsh
          clear hsh
          go_wp2_with fail
          go_quiet (fail)
          go_wp2_with fail
          go_roundw
          case rel => exact ⟨k + 1, by omega, by go_num, Lib.hid (bdN D3.out _)⟩
          case measure => simp [intOf]; omega
        | true =>
          have hTd : decide (er = 0) = decide (at_ = T) := by simpa [showsA] using hsh
          clear hsh HT HTB
          obtain ⟨Ts, Tow, Tse, Tep⟩ := T
          obtain ⟨As, Aow, Ase, Aep⟩ := at_
          dsimp only at a0 a1 a2 a3 i7 i8 i9 i10
          have hfls := Lib.hid (show (⟨As, Aow, Ase, Aep⟩ : Tk) ≠ ⟨Ts, Tow, Tse, Tep⟩ → (er == 0) = false from fun h => by
            rw [decide_eq_false h] at hTd
            simpa using hTd)
          by_cases g1 : As = Ts
          case neg => as_aux_lemma =>
            have t2 : (er == 0) = false := hfls.out fun h => g1 (by injection h)
            have t3 : (As == Ts) = false := by simpa using g1
            clear hTd g1
            go_wp2_with fail
            go_quiet (fail)
            go_wp2_with fail
            go_roundw
            case rel => exact ⟨k + 1, by omega, by go_num, Lib.hid (bdN D3.out _)⟩
            case measure => simp [intOf]; omega
          subst g1
          by_cases g2 : Aow = Tow
          case neg => as_aux_lemma =>
            have t2 : (er == 0) = false := hfls.out fun h => g2 (by injection h)
            have t3 : (Aow == Tow) = false := by simpa using g2
            clear hTd g2
            go_wp2_with fail
            go_quiet (fail)
            go_wp2_with fail
            go_roundw
            case rel => exact ⟨k + 1, by omega, by go_num, Lib.hid (bdN D3.out _)⟩
            case measure => simp [intOf]; omega
          subst g2
          by_cases g3 : Ase = Tse
          case neg => as_aux_lemma =>
            have t2 : (er == 0) = false := hfls.out fun h => g3 (by injection h)
            have t3 : (Ase == Tse) = false := by simpa using g3
            clear hTd g3
            go_wp2_with fail
            go_quiet (fail)
            go_wp2_with fail
            go_roundw
            case rel => exact ⟨k + 1, by omega, by go_num, Lib.hid (bdN D3.out _)⟩
            case measure => simp [intOf]; omega
          subst g3
          by_cases g4 : Aep = Tep
          case neg => as_aux_lemma =>
            have t2 : (er == 0) = false := hfls.out fun h => g4 (by injection h)
            have t3 : (Aep == Tep) = false := by simpa using g4
            clear hTd g4
            go_wp2_with fail
            go_quiet (fail)
            go_wp2_with fail
            go_roundw
            case rel => exact ⟨k + 1, by omega, by go_num, Lib.hid (bdN D3.out _)⟩
            case measure => simp [intOf]; omega
          subst g4
          have t2 : (er == 0) = true := by simpa using hTd
          clear hTd hfls
          go_wp2_with fail
          go_quiet (fail)
          go_wp2_with fail
          go_roundw
          case rel => exact ⟨k + 1, by omega, by go_num, Lib.hid (bdN D3.out _)⟩
          case measure => simp [intOf]; omega
end Go.Proofs.YtcomfhigbjkoeaaDoor
