/-
  Walk of the statement's function AuditParts. Conditions: as the theorem says.
-/
import Derived.Test.YtcomfhigbjkoeaaDoorPlPt
import Derived.Test.YtcomfhigbjkoeaaDoorSsA
import Derived.Test.YtcomfhigbjkoeaaDoorStA
import Derived.Test.YtcomfhigbjkoeaaDoorAwA
import Derived.Test.YtcomfhigbjkoeaaDoorLibT
import Derived.Deep.RegionHeld3
namespace Go.Proofs.YtcomfhigbjkoeaaDoor
open Go.RowKit

theorem sl_init {α : Type} {R : Rep α} {w : World} {A : Option Addr} {n c k : Nat} {xs : List α} (h : Sl R w (.slice A n c) xs) (hk : k ≤ xs.length) : Sl R w (.slice A (xs.take k).length c) (xs.take k) := by
  obtain ⟨A', c', he, h1, h2, h3⟩ := h
  injection he with e1 e2 e3
  subst e1 e2 e3
  refine ⟨A, c, rfl, by rw [List.length_take]; omega, h2, ?_⟩
  rcases h3 with ⟨h3, h4⟩ | ⟨b, off, rfl, hb, h3⟩
  · exact .inl ⟨by rw [List.length_take]; omega, h4⟩
  · refine .inr ⟨b, off, rfl, hb, fun i x hx => h3 i x ?_⟩
    rw [List.getElem?_take] at hx
    split at hx
    · exact hx
    · cases hx

theorem held_op {P : Program} {l : List Oper} {Q : Exit → Act → World → Prop} {i : Nat} {o : Oper} {K' : Act → World → Prop} {a : Act} {w : World} (hi : l[i]? = some o) (h : ∀ K : Exit → Act → World → Prop, Hid (∀ a w, K' a w → K .normal a w) → wpList P l.toArray K [o] a w) : wpOp P l.toArray Q i K' a w := by
  have h1 := h (midQ Q K') (Lib.hid fun _ _ h => h)
  have hw : wpOp P l.toArray (midQ Q K') i (wpList P l.toArray (midQ Q K') []) a w := by
    unfold wpOp
    simp only [List.getElem?_toArray, hi]
    exact h1
  exact wpOp_mid hw

/-- What is known stays readable, whatever is stored into one block. -/
def KeepI (g : Nat) (W : World) (F : Frm) (s : Au) : Prop := ∀ W', W.grownBy W' (some g) → IsAu W' F s
theorem KeepI.is {g : Nat} {W : World} {F : Frm} {s : Au} (h : KeepI g W F s) : IsAu W F s := h W (World.grownBy.refl W _)
theorem KeepI.set {g : Nat} {W W' : World} {F : Frm} {s : Au} (h : KeepI g W F s) (hg : W.grownBy W' (some g)) : KeepI g W' F s := fun _ h2 => h _ (grownBy_trans hg h2)
theorem grown_of_below {W W' : World} (h : Below W.heap.size W W') (g : Nat) : W.grownBy W' (some g) := ⟨h.os, h.tape, h.output, h.size, fun k hk _ => h.block k hk⟩
theorem KeepI.up {g : Nat} {W W' : World} {F : Frm} {s : Au} (h : KeepI g W F s) (hb : Below W.heap.size W W') : KeepI g W' F s := h.set (grown_of_below hb g)
theorem KeepI.fresh {g B : Nat} {W : World} {F' : Frm} {s' : Au} (hv : ∀ W', W.grownBy W' (some g) → Sl secR W' (.slice F'.V s'.ve.secs.length F'.vc) s'.ve.secs) (h1 : Own seR 86 B W (.slice F'.A s'.seats.length F'.ac) s'.seats) (h2 : Own intR 3 B W (.slice F'.B s'.waiting.length F'.bc) s'.waiting) (hB : g < B)
    (bv : Bd s'.ve.shards ∧ Bd s'.ve.ttl ∧ Bd s'.ve.session) (bn : Bd s'.now) : KeepI g W F' s' := fun W' hg =>
  ⟨hv W' hg, (h1.kept hg (fun k hk e => by have := (h1.lt k hk).1; injection e with e; omega) (fun cs y h => seR_flat _ _ _ _ h)).sl, (h2.kept hg (fun k hk e => by have := (h2.lt k hk).1; injection e with e; omega) (fun cs y h => intR_flat _ _ _ _ h)).sl, bv, bn⟩

theorem new_now {x : Ve} (h : (newA x).2 = 0) : (newA x).1.now = 0 := by
  unfold newA at h ⊢
  split at h
  · rename_i h9; exact absurd h h9
  · rename_i h9; rw [if_neg h9]

set_option maxRecDepth 100000 in
set_option maxHeartbeats 16000000 in
theorem lawParts_any {w : World} {V : Option Addr} {vc : Nat} {x : Ve} (hv : Sl secR w (.slice V x.secs.length vc) x.secs) (h1 : Bd x.shards) (h2 : Bd x.ttl) (h3 : Bd x.session) {L : Option Addr} {lc : Nat} {l : List (MOp × MRp)} (hl : Sl stR w (.slice L l.length lc) l) {n : Int} (hn : 0 ≤ n ∧ n ≤ 255) :
    Calls Tryd.prog 6 #[.agg #[.int .i64 x.shards, .int .i64 x.ttl, .int .i64 x.session, .slice V x.secs.length vc], .slice L l.length lc, .int .u8 n] w fun e w' => e = .returned (.bool true) ∧ Below w.heap.size w w' := by
  have hcap := hl.cap
  have CF := Lib.hid (fun W (hb : Below w.heap.size w W) => far_any (hv.up hb))
  have CC := Lib.hid (fun W (hb : Below w.heap.size w W) => auCheck_any (hv.up hb) h1 h2 h3 (hl.up hb))
  have CP := Lib.hid (fun k (hk : k ≤ l.length) W (hb : Below w.heap.size w W) => auCheck_any (hv.up hb) h1 h2 h3 (sl_init (hl.up hb) hk))
  have CN := Lib.hid (fun W (hb : Below w.heap.size w W) => new_any (hv.up hb) h1 h2 h3)
  have CW := Lib.hid (fun W => awake_any W)
  have hpart := Lib.hid (fun h k hk => checkA_part (x := x) (l := l) h (k := k) hk)
  have herr := Lib.hid (fun h => checkA_err (x := x) (l := l) h)
  have hstart := Lib.hid (fun h => part_start (x := x) (l := l) h)
  have hstep := Lib.hid (fun h i s acc hI hi => part_step (x := x) (l := l) (i := i) (s := s) (acc := acc) h hI hi)
  have hend := Lib.hid (fun s acc hI => part_end (x := x) (l := l) (s := s) (acc := acc) hI)
  have HL := Lib.hid hl
  have HV := Lib.hid (And.intro hv (And.intro h1 (And.intro h2 h3)))
  unfold FarPost at CF
  unfold CheckPost at CC CP
  unfold NewPost at CN
  generalize hK : checkA x l = K at CC hpart herr hstart hstep hend
  obtain ⟨fs, fe⟩ := K
  simp only at CC hpart herr hstart hstep hend
  have HK := Lib.hid hK
  clear h1 h2 h3 hl hv hK
  obtain ⟨cs, hcs⟩ : ∃ cs : List Value, cs = [.int .i64 x.shards, .int .i64 x.ttl, .int .i64 x.session, .slice V x.secs.length vc] := ⟨_, rfl⟩
  have HCS := Lib.hid hcs
  obtain ⟨q, hq⟩ : ∃ q, w.heap.size = q := ⟨_, rfl⟩
  have HQ := Lib.hid hq
  have K0 := Lib.hid (show Cells (w.alloc (.cells #[.int .i64 x.shards, .int .i64 x.ttl, .int .i64 x.session, .slice V x.secs.length vc] 24)) q cs from hq ▸ hcs ▸ Cells.new _ _ _)
  clear hcs
  go_enter Tryd.func6, Tryd.ntmps6
  go_wp2_with fail
  refine (CF.out _ (ba _ _)).mono ?_
  rintro e1 w1 ⟨fb, rfl, hb1⟩
  have K1 := Lib.hid (K0.out.later hb1)
  have k0 := K1.out
  rw [HCS.out] at k0
  have c0 := k0.c 0 _ rfl
  have c1 := k0.c 1 _ rfl
  have c2 := k0.c 2 _ rfl
  have c3 := k0.c 3 _ rfl
  have y0 := k0.lt
  have HB := Lib.hid ((ba w _).trans (hb1.mono (ba w _).size))
  clear hb1 k0 CF K0 hq
  cases fb with
  | true => as_aux_lemma =>
    go_wp2_with fail
    refine (CW.out _).mono ?_
    rintro e w2 ⟨rfl, hb⟩
    have HB2 := Lib.hid (HB.out.trans (hb.mono HB.out.size))
    clear hb
    go_wp2_with fail
    go_ret
    exact ⟨rfl, HB2.out⟩
  | false =>
  by_cases hlen : 60 < l.length
  case pos => as_aux_lemma =>
    have t0 : decide ((60 : Int) < (l.length : Int)) = true := decide_eq_true (by omega)
    go_wp2_with fail
    refine (CW.out _).mono ?_
    rintro e w2 ⟨rfl, hb⟩
    have HB2 := Lib.hid (HB.out.trans (hb.mono HB.out.size))
    clear hb
    go_wp2_with fail
    go_ret
    exact ⟨rfl, HB2.out⟩
  have t0 : decide ((60 : Int) < (l.length : Int)) = false := decide_eq_false (by omega)
  have hlen2 : l.length ≤ 60 := by omega
  clear hlen
  go_wp2_with fail
  refine (CC.out _ HB.out).mono ?_
  rintro e1 w2 ⟨A, c, rfl, hown, hb2⟩
  have HA := Lib.hid hown.sl
  have HB2 := Lib.hid (HB.out.trans (hb2.mono HB.out.size))
  have K2 := Lib.hid (K1.out.later hb2)
  clear hb2 CC c0 c1 c2 c3 y0 HB t0 hown K1
  have k0 := K2.out
  rw [HCS.out] at k0
  have c0 := k0.c 0 _ rfl
  have c1 := k0.c 1 _ rfl
  have c2 := k0.c 2 _ rfl
  have c3 := k0.c 3 _ rfl
  have y0 := k0.lt
  clear k0
  obtain ⟨m, hm⟩ : ∃ m : Int, n.tmod ((l.length : Int) + 1) = m := ⟨_, rfl⟩
  have hmb : 0 ≤ m ∧ m ≤ (l.length : Int) := by
    rw [← hm]
    have h1 := Int.tmod_nonneg ((l.length : Int) + 1) hn.1
    have h2 := Int.tmod_lt_of_pos n (show (0 : Int) < (l.length : Int) + 1 by omega)
    omega
  obtain ⟨k, rfl⟩ := Int.eq_ofNat_of_zero_le hmb.1
  have hk : k ≤ l.length := by omega
  have hk0 : (0 : Int) ≤ (k : Int) := by omega
  have hk1 : (k : Int) ≤ (l.length : Int) := by omega
  have hk2 : (k : Int) ≤ (lc : Int) := by omega
  have hn1 := hn.1
  have hn2 := hn.2
  have hwn : IntKind.i64.wrap n = n := IntWalk.i64_in _ (by omega)
  have hwl : IntKind.i64.wrap ((l.length : Int) + 1) = (l.length : Int) + 1 := IntWalk.i64_in _ (by omega)
  have hnz : ¬ (l.length : Int) + 1 = 0 := by omega
  have hnz2 : ((l.length : Int) + 1 == 0) = false := by simp; omega
  have CP' := Lib.hid (CP.out k hk)
  rw [show (l.take k).length = k by rw [List.length_take]; omega] at CP'
  generalize hK2 : checkA x (l.take k) = KP at CP'
  obtain ⟨ps, pe⟩ := KP
  have HKP := Lib.hid hK2
  simp only at CP'
  clear CP hK2
  go_wp2_with fail
  refine wp_region_still_seq 9 (by kernel_rfl) (by kernel_rfl) (fun _ _ _ _ _ h => h) ?_
  simp only [List.take_succ_cons, List.take_zero, List.drop_succ_cons, List.drop_zero, World.drew_eq]
  repeat still_step
  refine wpStill_nil ?_
  go_wp2_with fail
  refine (CP'.out _ (bdd HB2.out)).mono ?_
  rintro e1 w3 ⟨A2, pc, rfl, hown, hb3⟩
  replace hb3 : Below w2.heap.size w2 w3 := (bdd (Below.refl _ _)).trans hb3
  have HA2 := Lib.hid hown.sl
  have HA1 := Lib.hid (HA.out.up hb3)
  have HB3 := Lib.hid (HB2.out.trans (hb3.mono HB2.out.size))
  have K3 := Lib.hid (K2.out.later hb3)
  clear hown hb3 CP' HA HB2 K2 c0 c1 c2 c3 y0
  by_cases hfe : fe = 0
  case neg => as_aux_lemma =>
    have t1 : (fe != 0) = true := by simpa using hfe
    obtain rfl := herr.out hfe
    go_wp2_with fail
    refine (CW.out _).mono ?_
    rintro e w4 ⟨rfl, hb⟩
    have HB4 := Lib.hid (HB3.out.trans (hb.mono HB3.out.size))
    clear hb
    go_wp2_with fail
    go_ret
    exact ⟨rfl, HB4.out⟩
  subst hfe
  obtain ⟨mid, rest, hp1, hp2, hp3⟩ := hpart.out (by first | trivial | rfl) k hk
  rw [HKP.out] at hp1
  obtain ⟨rfl, rfl⟩ := Prod.mk.inj hp1
  have hple : ps.length ≤ fs.length := by rw [hp2]; simp
  have hp0 : (0 : Int) ≤ (ps.length : Int) := by omega
  have hple1 : (ps.length : Int) ≤ (fs.length : Int) := by omega
  have hfc := HA1.out.cap
  have hple2 : (ps.length : Int) ≤ (c : Int) := by omega
  have hgt : decide ((fs.length : Int) < (ps.length : Int)) = false := decide_eq_false (by omega)
  have hgtN : decide (fs.length < ps.length) = false := decide_eq_false (by omega)
  have CS := Lib.hid (fun W (hb : Below w3.heap.size w3 W) => sameF_any (HA2.out.up hb) (sl_init (HA1.out.up hb) hple))
  rw [show (fs.take ps.length).length = ps.length by rw [List.length_take]; omega, show decide (ps = fs.take ps.length) = true by rw [hp2]; simp] at CS
  have HP2 := Lib.hid hp2
  have HP3 := Lib.hid hp3
  clear hp1 hp2 hp3 hpart HKP
  go_wp2_with fail
  have hnext : ∀ (P : Prop), (decide ((ps.length : Int) < (fs.length : Int)) = false → decide (ps.length < fs.length) = false → P) → (∀ b off f0, A = some ⟨b, off, none⟩ → b < w3.heap.size → w3.cell? ⟨b, off + ps.length * 2, none⟩ = some (.int .i64 f0) → decide ((ps.length : Int) < (fs.length : Int)) = true → decide (ps.length < fs.length) = true → decide (f0 < (k : Int)) = false → P) → P := fun P h1 h2 => by
    by_cases hlt : ps.length < fs.length
    · obtain ⟨b, off, hA, hb, e0, _⟩ := HA1.out.atF hlt
      refine h2 b off _ hA hb e0 (decide_eq_true (by omega)) (decide_eq_true (by omega)) (decide_eq_false ?_)
      have hf : fs[ps.length] ∈ rest := by
        have e := HP2.out
        have h3 : ps.length < (ps ++ rest).length := by rw [← e]; exact hlt
        have h4 : fs[ps.length] = (ps ++ rest)[ps.length] := by simp only [e]
        rw [h4, List.getElem_append_right (Nat.le_refl _)]
        exact List.getElem_mem _
      have := HP3.out _ hf
      omega
    · exact h1 (decide_eq_false (by omega)) (decide_eq_false (by omega))
  go_cut [92] from 53 to 92 (fun v W => v = .bool false ∧ Below w3.heap.size w3 W)
  case first => as_aux_lemma =>
    refine hnext _ (fun hd hdN => ?_) (fun b off f0 hA hb e0 hd hdN hf => ?_)
    · clear hnext
      refine wp_region_gro (by kernel_rfl) (by kernel_rfl) ?_
      repeat (go_big_quiet_step (first | (go_at_call 12; exact Calls.gro_of (CS.out _ (gro_below _ _))) | fail))
      refine wpQuiet_nil ?_
      rintro _ ⟨p, rfl⟩
      go_wp2_with fail
      go_meet
      exact ⟨rfl, gro_below _ _⟩
    · clear hnext
      subst hA
      have f := gro_cell e0
      have hq0 : (0 : Int) ≤ (ps.length : Int) := by omega
      have hq1 : (ps.length : Int) < (fs.length : Int) := by simpa using hd
      refine wp_region_gro (by kernel_rfl) (by kernel_rfl) ?_
      repeat (go_big_quiet_step (first | (go_at_call 12; exact Calls.gro_of (CS.out _ (gro_below _ _))) | fail))
      refine wpQuiet_nil ?_
      rintro _ ⟨p, rfl⟩
      go_wp2_with fail
      go_meet
      exact ⟨rfl, gro_below _ _⟩
  case rest =>
    obtain ⟨rfl, hb4⟩ := hcut
    have HB4 := Lib.hid (HB3.out.trans (hb4.mono HB3.out.size))
    have K4 := Lib.hid (K3.out.later hb4)
    have HA4 := Lib.hid (HA1.out.up hb4)
    obtain ⟨hne0, hI0⟩ := hstart.out (by first | trivial | rfl)
    have hnow0 := new_now hne0
    have CNw := Lib.hid (CN.out _ HB4.out)
    have k0 := K4.out
    rw [HCS.out] at k0
    have c0 := k0.c 0 _ rfl
    have c1 := k0.c 1 _ rfl
    have c2 := k0.c 2 _ rfl
    have c3 := k0.c 3 _ rfl
    have y0 := k0.lt
    clear k0 hb4 hnext CS HA1 HB3 K3 HA2 HP2 HP3 hgt hgtN hstart CN
    generalize newA x = N at CNw hne0 hI0 hnow0
    obtain ⟨s0, e0⟩ := N
    simp only at CNw hne0 hI0 hnow0
    subst hne0
    go_wp2_with fail
    refine CNw.out.mono ?_
    rintro e w5 ⟨F0, rfl, hb5, hF⟩
    obtain ⟨a0, b0, rfl, _, o1, o2⟩ := hF (by first | trivial | rfl)
    have HB5 := Lib.hid (HB4.out.trans (hb5.mono HB4.out.size))
    have HA5 := Lib.hid (HA4.out.up hb5)
    have hI1 := hI0.2.1
    have HI0 := Lib.hid (show IsAu w5 (ownF V vc a0 b0 s0) s0 from ⟨by rw [hI1]; exact HV.out.1.up HB5.out, o1.sl, o2.sl, by rw [hI1]; exact HV.out.2, by rw [hnow0]; simp [Bd]⟩)
    have HP0 := Lib.hid hI0
    have HK0 := Lib.hid (show KeepI w5.heap.size w5 (ownF V vc a0 b0 s0) s0 from fun W' hg => by
      have hbW : Below w.heap.size w W' := HB5.out.grown hg HB5.out.size (fun k hk => by injection hk with hk; have := HB5.out.size; omega)
      exact ⟨by rw [hI1]; exact HV.out.1.up hbW, (o1.kept hg (fun k hk e => by have := (o1.lt k hk).2; injection e with e; omega) (fun cs y h => seR_flat _ _ _ _ h)).sl, (o2.kept hg (fun k hk e => by have := (o2.lt k hk).2; injection e with e; omega) (fun cs y h => intR_flat _ _ _ _ h)).sl, HI0.out.bv, HI0.out.bn⟩)
    clear hb5 hF o1 o2 CNw HB4 K4 HA4 c0 c1 c2 c3 y0 hI0 hI1 hnow0 HI0
    generalize ownF V vc a0 b0 s0 = F0 at HK0 ⊢
    unfold auV
    go_wp2_with fail
    obtain ⟨g, hg⟩ : ∃ g, w5.heap.size = g := ⟨_, rfl⟩
    have HG := Lib.hid hg
    rw [hg]
    rw [hg] at HK0
    refine at_world (fun W => Below w5.heap.size w5 W ∧ Cells W g (auCells F0 s0) ∧ KeepI g W F0 s0) ⟨ba _ _, Cells.newR _ _ _ _ hg.symm, HK0.out.up (ba _ _)⟩ fun w6 ⟨hb6, k6, i6⟩ => ?_
    have HB6 := Lib.hid hb6
    have K6 := Lib.hid k6
    have I6 := Lib.hid i6
    clear hb6 k6 i6 hg HK0
    go_loopw [12, 13, 14] (fun gv kv iv wr => ∃ i acc s F, i ≤ l.length ∧ iv = .int .i64 (i : Nat) ∧ gv = .int .i64 0 ∧ kv = .int .i64 (acc.length : Nat) ∧ Hid (Below w5.heap.size w5 wr) ∧ Hid (Cells wr g (auCells F s)) ∧ Hid (KeepI g wr F s) ∧ Hid (PartI x l i s acc) ∧ acc.length ≤ i) (fun _ _ iv _ => l.length - (intOf iv).toNat)
    case atStart => exact ⟨0, [], s0, F0, by omega, rfl, rfl, rfl, HB6, K6, I6, HP0, by simp⟩
    case round =>
      obtain ⟨i, acc, s, F, hi, rfl, rfl, rfl, D, KS, IS, HP, hacc⟩ := hrel
      by_cases hlt : i < l.length
      case neg => as_aux_lemma =>
        obtain rfl : i = l.length := by omega
        obtain rfl := hend.out s acc HP.out
        have D' := Lib.hid (HB5.out.trans (D.out.mono HB5.out.size))
        go_wp2_with fail
        refine (CW.out _).mono ?_
        rintro e w7 ⟨rfl, hb⟩
        have HB7 := Lib.hid (D'.out.trans (hb.mono D'.out.size))
        clear hb
        go_wp2_with fail
        go_ret
        exact ⟨rfl, HB7.out⟩
      have hi0 : (0 : Int) ≤ (i : Int) := by omega
      have hi1 : (i : Int) < (l.length : Int) := by omega
      obtain ⟨hr0, hPn, hfl⟩ := hstep.out (by first | trivial | rfl) i s acc HP.out hlt
      obtain ⟨bl, off, cs2, hA2, hbl, his, hat⟩ := (HL.out.up (HB5.out.trans (D.out.mono HB5.out.size))).at_ hlt
      subst hA2
      obtain ⟨rfl, ho, hr⟩ := his
      have CT := Lib.hid (fun W (hb : Below wr.heap.size wr W) => auStep_any (IS.out.is.up hb) ho hr)
      unfold StepPost StepOwn at CT
      rw [show stepA s l[i].1 l[i].2 = readA s l[i].1 l[i].2 by rw [stepA, if_neg (by simp [(good_iff s).2 HP.out.1])]] at CT
      have hsame := Lib.hid (show ((readA s l[i].1 l[i].2).1 ≠ 0 ∨ l[i].2.err ≠ 0) → (readA s l[i].1 l[i].2).2.2 = s from fun hh => readA_same hh)
      have hat' : At wr bl (off + i * 21) (stCells l[i]) := hat
      clear hat
      generalize readA s l[i].1 l[i].2 = RR at CT hr0 hPn hfl hsame
      obtain ⟨rule, er, s'⟩ := RR
      simp only at CT hr0 hPn hfl hsame
      subst hr0
      have HPN := Lib.hid hPn
      have HFL := Lib.hid hfl
      have HHAT := Lib.hid hat'
      generalize hp : l[i] = p at CT hat' hsame
      have HPE := Lib.hid hp
      clear hPn hfl ho hr hp
      obtain ⟨⟨ki, ow, ti, se, sc, nn, ot, ⟨ts, tow, tse, te⟩, now⟩, ⟨er2, se2, n2, dl, ⟨us, uo, use_, ue⟩, pl⟩⟩ := p
      have d0 : wr.cell? ⟨bl, off + i * 21, none⟩ = some (.int .i64 ki) := hat' 0 _ rfl
      have d1 := hat' 1 _ rfl
      have d2 := hat' 2 _ rfl
      have d3 := hat' 3 _ rfl
      have d4 := hat' 4 _ rfl
      have d5 := hat' 5 _ rfl
      have d6 := hat' 6 _ rfl
      have d7 := hat' 7 _ rfl
      have d8 := hat' 8 _ rfl
      have d9 := hat' 9 _ rfl
      have d10 := hat' 10 _ rfl
      have d11 := hat' 11 _ rfl
      have d12 := hat' 12 _ rfl
      have d13 := hat' 13 _ rfl
      have d14 := hat' 14 _ rfl
      have d15 := hat' 15 _ rfl
      have d16 := hat' 16 _ rfl
      have d17 := hat' 17 _ rfl
      have d18 := hat' 18 _ rfl
      have d19 := hat' 19 _ rfl
      have d20 := hat' 20 _ rfl
      clear hat'
      obtain ⟨ve, nw, seats, waiting⟩ := s
      obtain ⟨FV, Fvc, FA, Fac, FB, Fbc⟩ := F
      have ks := KS.out
      have u0 := ks.c 0 _ rfl
      have u1 := ks.c 1 _ rfl
      have u2 := ks.c 2 _ rfl
      have u3 := ks.c 3 _ rfl
      have u4 := ks.c 4 _ rfl
      have u5 := ks.c 5 _ rfl
      have u6 := ks.c 6 _ rfl
      have z0 := ks.lt
      clear ks
      dsimp only at u0 u1 u2 u3 u4 u5 u6
      unfold auV stV at CT
      dsimp only at CT
      go_wp2_with fail
      go_cut [15, 16, 17] from 98 to 159 (fun v15 v16 v17 W => ∃ g2 F', v15 = .pointer (some ⟨g2, 0, none⟩) ∧ v16 = .int .i64 rule ∧ v17 = .int .i64 0 ∧ Below w5.heap.size w5 W ∧ Below wr.heap.size wr W ∧ Cells W g (auCells ⟨FV, Fvc, FA, Fac, FB, Fbc⟩ ⟨ve, nw, seats, waiting⟩) ∧ Cells W g2 (auCells F' s') ∧ KeepI g W F' s' ∧ g < g2)
      case first => as_aux_lemma =>
        have CT2 := Lib.hid (fun W (hb : Below wr.heap.size wr W) => (show Calls Tryd.prog 19 #[.agg (auCells ⟨FV, Fvc, FA, Fac, FB, Fbc⟩ ⟨ve, nw, seats, waiting⟩).toArray, .agg (stCells ⟨⟨ki, ow, ti, se, sc, nn, ot, ⟨ts, tow, tse, te⟩, now⟩, ⟨er2, se2, n2, dl, ⟨us, uo, use_, ue⟩, pl⟩⟩).toArray] W _ from CT.out W hb))
        have hsz1 : (Tryd.prog.info? 63).map (·.size) = some (auCells ⟨FV, Fvc, FA, Fac, FB, Fbc⟩ ⟨ve, nw, seats, waiting⟩).length := by show _ = some 7; kernel_rfl
        have hsz2 : (Tryd.prog.info? 41).map (·.size) = some (stCells ⟨⟨ki, ow, ti, se, sc, nn, ot, ⟨ts, tow, tse, te⟩, now⟩, ⟨er2, se2, n2, dl, ⟨us, uo, use_, ue⟩, pl⟩⟩).length := by show _ = some 21; kernel_rfl
        have hrow : ∀ W, Below wr.heap.size wr W → W.rangeAt bl (off + i * 21) (stCells ⟨⟨ki, ow, ti, se, sc, nn, ot, ⟨ts, tow, tse, te⟩, now⟩, ⟨er2, se2, n2, dl, ⟨us, uo, use_, ue⟩, pl⟩⟩) := fun W hb => by
          have h := HHAT.out
          rw [HPE.out] at h
          exact (h.up hb).range
        clear u0 u1 u2 u3 u4 u5 u6 d0 d1 d2 d3 d4 d5 d6 d7 d8 d9 d10 d11 d12 d13 d14 d15 d16 d17 d18 d19 d20
        refine wp_region_held (S := fun W => Below wr.heap.size wr W) (by kernel_rfl) ?_
        refine wpAnyH_take (i := 0) rfl (by kernel_rfl) (by kernel_rfl) (by kernel_rfl) (fun _ _ _ h => h) (yieldsIf_load_mid rfl 63 (.tmp 11) rfl g 0 rfl (auCells ⟨FV, Fvc, FA, Fac, FB, Fbc⟩ ⟨ve, nw, seats, waiting⟩) _ (fun W hb => (KS.out.later hb).range) Tryd.underlying63 rfl hsz1) (bdd (Below.refl _ _)) ?_
        refine wpAnyH_take (i := 1) (v := .slice (some ⟨bl, off, none⟩) l.length lc) rfl (by kernel_rfl) (by kernel_rfl) (by kernel_rfl) (fun _ _ _ h => h) (.inl ⟨rfl, fun W _ => by go_simp⟩) (bdd (Below.refl _ _)) ?_
        refine wpAnyH_take (i := 2) (v := .int .i64 (i : Int)) rfl (by kernel_rfl) (by kernel_rfl) (by kernel_rfl) (fun _ _ _ h => h) (.inl ⟨rfl, fun W _ => by go_simp⟩) (bdd (Below.refl _ _)) ?_
        refine wpAnyH_take (i := 3) (v := .pointer (some ⟨bl, off + i * 21, none⟩)) rfl (by kernel_rfl) (by kernel_rfl) (by kernel_rfl) (fun _ _ _ h => h) (.inl ⟨rfl, fun W _ => by go_simp⟩) (bdd (Below.refl _ _)) ?_
        refine wpAnyH_take (i := 4) rfl (by kernel_rfl) (by kernel_rfl) (by kernel_rfl) (fun _ _ _ h => h) (yieldsIf_load_mid rfl 41 (.tmp 112) rfl bl (off + i * 21) rfl (stCells ⟨⟨ki, ow, ti, se, sc, nn, ot, ⟨ts, tow, tse, te⟩, now⟩, ⟨er2, se2, n2, dl, ⟨us, uo, use_, ue⟩, pl⟩⟩) _ hrow Tryd.underlying41 rfl hsz2) (bdd (Below.refl _ _)) ?_
        refine wpAnyH_all (rs := [5, 10]) (by kernel_rfl) (by simp) fun j hj => ?_
        simp only [List.mem_cons, List.not_mem_nil, or_false] at hj
        rcases hj with rfl | rfl
        · refine held_op rfl fun K hK => ?_
          go_wp2_with fail
          refine (CT2.out _ (bdd (Below.refl _ _))).mono ?_
          rintro e w9 ⟨F9, rfl, is9, hb9, ow9⟩
          have HS := Lib.hid (show Below wr.heap.size wr w9 from (bdd (Below.refl wr.heap.size wr)).trans hb9)
          have HI9 := Lib.hid is9
          clear is9 hb9
          go_wp2_with fail
          refine hK.out _ _ ⟨HS.out, ?_⟩
          clear hK K
          refine wpAnyH_take (i := 6) (v := (.tuple #[(.agg #[.int .i64 s'.ve.shards, .int .i64 s'.ve.ttl, .int .i64 s'.ve.session, .slice F9.V s'.ve.secs.length F9.vc, .int .i64 s'.now, .slice F9.A s'.seats.length F9.ac, .slice F9.B s'.waiting.length F9.bc]), .int .i64 rule, .int .i64 0])) rfl (by kernel_rfl) (by kernel_rfl) (by kernel_rfl) (fun _ _ _ h => h) (.inl ⟨rfl, fun W _ => by go_simp⟩) HS.out ?_
          refine wpAnyH_take (i := 7) (v := (.agg #[.int .i64 s'.ve.shards, .int .i64 s'.ve.ttl, .int .i64 s'.ve.session, .slice F9.V s'.ve.secs.length F9.vc, .int .i64 s'.now, .slice F9.A s'.seats.length F9.ac, .slice F9.B s'.waiting.length F9.bc])) rfl (by kernel_rfl) (by kernel_rfl) (by kernel_rfl) (fun _ _ _ h => h) (.inl ⟨rfl, fun W _ => by go_simp⟩) HS.out ?_
          refine wpAnyH_take (i := 8) (v := (.int .i64 rule)) rfl (by kernel_rfl) (by kernel_rfl) (by kernel_rfl) (fun _ _ _ h => h) (.inl ⟨rfl, fun W _ => by go_simp⟩) HS.out ?_
          refine wpAnyH_take (i := 9) (v := (.int .i64 0)) rfl (by kernel_rfl) (by kernel_rfl) (by kernel_rfl) (fun _ _ _ h => h) (.inl ⟨rfl, fun W _ => by go_simp⟩) HS.out ?_
          refine wpAnyH_all (rs := [10]) (by kernel_rfl) (by simp) fun j hj => ?_
          obtain rfl : j = 10 := by simpa using hj
          clear hj
          refine held_op rfl fun K hK => ?_
          go_wp2_with fail
          refine hK.out _ _ ⟨bal HS.out, ?_⟩
          clear hK K
          refine wpAnyH_all (rs := [11]) (by kernel_rfl) (by simp) fun j hj => ?_
          obtain rfl : j = 11 := by simpa using hj
          clear hj
          refine held_op rfl fun K hK => ?_
          go_wp2_with fail
          refine hK.out _ _ ⟨bal HS.out, ?_⟩
          clear hK K
          have hlt9 := HS.out.size
          have hgw := KS.out.lt
          have hiq : KeepI g (w9.alloc (.cells #[.int .i64 s'.ve.shards, .int .i64 s'.ve.ttl, .int .i64 s'.ve.session, .slice F9.V s'.ve.secs.length F9.vc, .int .i64 s'.now, .slice F9.A s'.seats.length F9.ac, .slice F9.B s'.waiting.length F9.bc] 63)) F9 s' := by
            rcases ow9 with ⟨rfl, rfl⟩ | ⟨e1, e2, e3, o1, o2⟩
            · exact IS.out.up (bal HS.out)
            · exact KeepI.fresh (B := wr.heap.size) (fun W' hg => by rw [e1, e2, e3]; exact ((IS.out.up (bal HS.out)).set hg).is.vs) ((o1.up (ba _ _)).mono (Nat.le_refl _)) ((o2.up (ba _ _)).mono (Nat.le_refl _)) hgw HI9.out.bv HI9.out.bn
          refine at_world (fun W => Below wr.heap.size wr W ∧ Cells W w9.heap.size (auCells F9 s') ∧ KeepI g W F9 s') ⟨bal HS.out, Cells.newR _ _ _ _ rfl, hiq⟩ fun W10 ⟨hb10, k10, i10⟩ => ?_
          refine wpAnyH_all (rs := [12]) (by kernel_rfl) (by simp) fun j hj => ?_
          obtain rfl : j = 12 := by simpa using hj
          clear hj
          refine held_op rfl fun K hK => ?_
          go_wp2_with fail
          refine hK.out _ _ ⟨hb10, ?_⟩
          clear hK K
          refine wpAnyH_all (rs := [13]) (by kernel_rfl) (by simp) fun j hj => ?_
          obtain rfl : j = 13 := by simpa using hj
          clear hj
          refine held_op rfl fun K hK => ?_
          go_wp2_with fail
          refine hK.out _ _ ⟨hb10, ?_⟩
          clear hK K
          refine wpAnyH_done (by kernel_rfl) ?_ _
          go_wp2_with fail
          go_meet
          exact ⟨_, F9, rfl, rfl, rfl, D.out.trans (hb10.mono D.out.size), hb10, KS.out.later hb10, k10, i10, by omega⟩
        · refine held_op rfl fun K hK => ?_
          go_wp2_with fail
          refine hK.out _ _ ⟨bdd (ba _ _), ?_⟩
          clear hK K
          refine wpAnyH_all (rs := [5]) (by kernel_rfl) (by simp) fun j hj => ?_
          obtain rfl : j = 5 := by simpa using hj
          clear hj
          refine held_op rfl fun K hK => ?_
          go_wp2_with fail
          refine (CT2.out _ (bdd (ba _ _))).mono ?_
          rintro e w9 ⟨F9, rfl, is9, hb9, ow9⟩
          have HS := Lib.hid (show Below wr.heap.size wr w9 from (bdd (ba wr (.cells #[.int .i64 0, .int .i64 0, .int .i64 0, .slice none 0 0, .int .i64 0, .slice none 0 0, .slice none 0 0] 63))).trans (hb9.mono (show wr.heap.size ≤ ((wr.alloc (.cells #[.int .i64 0, .int .i64 0, .int .i64 0, .slice none 0 0, .int .i64 0, .slice none 0 0, .slice none 0 0] 63)).drew).heap.size by simp)))
          have KZ := Lib.hid (Cells.later (Cells.drew (Cells.new wr [.int .i64 0, .int .i64 0, .int .i64 0, .slice none 0 0, .int .i64 0, .slice none 0 0, .slice none 0 0] 63)) hb9)
          have HI9 := Lib.hid is9
          clear is9 hb9
          go_wp2_with fail
          refine hK.out _ _ ⟨HS.out, ?_⟩
          clear hK K
          refine wpAnyH_take (i := 6) (v := (.tuple #[(.agg #[.int .i64 s'.ve.shards, .int .i64 s'.ve.ttl, .int .i64 s'.ve.session, .slice F9.V s'.ve.secs.length F9.vc, .int .i64 s'.now, .slice F9.A s'.seats.length F9.ac, .slice F9.B s'.waiting.length F9.bc]), .int .i64 rule, .int .i64 0])) rfl (by kernel_rfl) (by kernel_rfl) (by kernel_rfl) (fun _ _ _ h => h) (.inl ⟨rfl, fun W _ => by go_simp⟩) HS.out ?_
          refine wpAnyH_take (i := 7) (v := (.agg #[.int .i64 s'.ve.shards, .int .i64 s'.ve.ttl, .int .i64 s'.ve.session, .slice F9.V s'.ve.secs.length F9.vc, .int .i64 s'.now, .slice F9.A s'.seats.length F9.ac, .slice F9.B s'.waiting.length F9.bc])) rfl (by kernel_rfl) (by kernel_rfl) (by kernel_rfl) (fun _ _ _ h => h) (.inl ⟨rfl, fun W _ => by go_simp⟩) HS.out ?_
          refine wpAnyH_take (i := 8) (v := (.int .i64 rule)) rfl (by kernel_rfl) (by kernel_rfl) (by kernel_rfl) (fun _ _ _ h => h) (.inl ⟨rfl, fun W _ => by go_simp⟩) HS.out ?_
          refine wpAnyH_take (i := 9) (v := (.int .i64 0)) rfl (by kernel_rfl) (by kernel_rfl) (by kernel_rfl) (fun _ _ _ h => h) (.inl ⟨rfl, fun W _ => by go_simp⟩) HS.out ?_
          have kz := KZ.out
          have x0 := kz.c 0 _ rfl
          have x1 := kz.c 1 _ rfl
          have x2 := kz.c 2 _ rfl
          have x3 := kz.c 3 _ rfl
          have x4 := kz.c 4 _ rfl
          have x5 := kz.c 5 _ rfl
          have x6 := kz.c 6 _ rfl
          have v0 := kz.f 0
          have v1 := kz.f 1
          have v2 := kz.f 2
          have v3 := kz.f 3
          have v4 := kz.f 4
          have v5 := kz.f 5
          have v6 := kz.f 6
          have xl := kz.lt
          clear kz
          refine wpAnyH_all (rs := [11]) (by kernel_rfl) (by simp) fun j hj => ?_
          obtain rfl : j = 11 := by simpa using hj
          clear hj
          refine held_op rfl fun K hK => ?_
          go_wp2_with fail
          obtain ⟨kq, hgq⟩ := KZ.out.put [.int .i64 s'.ve.shards, .int .i64 s'.ve.ttl, .int .i64 s'.ve.session, .slice F9.V s'.ve.secs.length F9.vc, .int .i64 s'.now, .slice F9.A s'.seats.length F9.ac, .slice F9.B s'.waiting.length F9.bc] rfl
          have hbq : Below wr.heap.size wr _ := HS.out.grown hgq HS.out.size (fun k hk => by injection hk; omega)
          have hgw := KS.out.lt
          have hiq : KeepI g (putAt w9 wr.heap.size 0 [.int .i64 s'.ve.shards, .int .i64 s'.ve.ttl, .int .i64 s'.ve.session, .slice F9.V s'.ve.secs.length F9.vc, .int .i64 s'.now, .slice F9.A s'.seats.length F9.ac, .slice F9.B s'.waiting.length F9.bc]) F9 s' := by
            rcases ow9 with ⟨rfl, rfl⟩ | ⟨e1, e2, e3, o1, o2⟩
            · exact IS.out.up hbq
            · refine KeepI.fresh (B := wr.heap.size + 1) (fun W' hg => by rw [e1, e2, e3]; exact ((IS.out.up hbq).set hg).is.vs) ((o1.kept hgq (fun k hk e => ?_) (fun cs y h => seR_flat _ _ _ _ h)).mono (by simp)) ((o2.kept hgq (fun k hk e => ?_) (fun cs y h => intR_flat _ _ _ _ h)).mono (by simp)) (by omega) HI9.out.bv HI9.out.bn
              · have := (o1.lt k hk).1; injection e with e; simp at this; omega
              · have := (o2.lt k hk).1; injection e with e; simp at this; omega
          refine hK.out _ _ ⟨hbq, ?_⟩
          clear hK K
          refine at_world (fun W => Below wr.heap.size wr W ∧ Cells W wr.heap.size (auCells F9 s') ∧ KeepI g W F9 s') ⟨hbq, kq, hiq⟩ fun W10 ⟨hb10, k10, i10⟩ => ?_
          refine wpAnyH_all (rs := [12]) (by kernel_rfl) (by simp) fun j hj => ?_
          obtain rfl : j = 12 := by simpa using hj
          clear hj
          refine held_op rfl fun K hK => ?_
          go_wp2_with fail
          refine hK.out _ _ ⟨hb10, ?_⟩
          clear hK K
          refine wpAnyH_all (rs := [13]) (by kernel_rfl) (by simp) fun j hj => ?_
          obtain rfl : j = 13 := by simpa using hj
          clear hj
          refine held_op rfl fun K hK => ?_
          go_wp2_with fail
          refine hK.out _ _ ⟨hb10, ?_⟩
          clear hK K
          refine wpAnyH_done (by kernel_rfl) ?_ _
          go_wp2_with fail
          go_meet
          exact ⟨_, F9, rfl, rfl, rfl, D.out.trans (hb10.mono D.out.size), hb10, KS.out.later hb10, k10, i10, by omega⟩
      case rest =>
        obtain ⟨g2, F', rfl, rfl, rfl, hb5, hb6, kg, k2, is2, hlt2⟩ := hcut
        have D7 := Lib.hid hb5
        have D8 := Lib.hid hb6
        have KG := Lib.hid kg
        have KN := Lib.hid k2
        have IN := Lib.hid is2
        have hgood := Lib.hid ((good_iff s').2 HPN.out.1)
        have CG := Lib.hid (fun W (hb : Below wc.heap.size wc W) => good_any (is2.is.up hb))
        rw [hgood.out] at CG
        have CSM := Lib.hid (fun (hs : s' = ⟨ve, nw, seats, waiting⟩) => (show ∀ W, Below wc.heap.size wc W → Calls Tryd.prog 20 #[auV ⟨FV, Fvc, FA, Fac, FB, Fbc⟩ ⟨ve, nw, seats, waiting⟩, auV F' s'] W fun e w' => e = .returned (.bool true) ∧ Below W.heap.size W w' from fun W hb => by subst hs; exact sameAu_any (IS.out.is.up (hb6.trans (hb.mono hb6.size))) (is2.is.up hb)))
        have a0 := kg.c 0 _ rfl
        have a1 := kg.c 1 _ rfl
        have a2 := kg.c 2 _ rfl
        have a3 := kg.c 3 _ rfl
        have a4 := kg.c 4 _ rfl
        have a5 := kg.c 5 _ rfl
        have a6 := kg.c 6 _ rfl
        have v0 := kg.f 0
        have v1 := kg.f 1
        have v2 := kg.f 2
        have v3 := kg.f 3
        have v4 := kg.f 4
        have v5 := kg.f 5
        have v6 := kg.f 6
        have b0 := k2.c 0 _ rfl
        have b1 := k2.c 1 _ rfl
        have b2 := k2.c 2 _ rfl
        have b3 := k2.c 3 _ rfl
        have b4 := k2.c 4 _ rfl
        have b5 := k2.c 5 _ rfl
        have b6 := k2.c 6 _ rfl
        have y0 := kg.lt
        have y1 := k2.lt
        dsimp only at a0 a1 a2 a3 a4 a5 a6
        clear u0 u1 u2 u3 u4 u5 u6 d0 d1 d2 d3 d4 d5 d6 d7 d8 d9 d10 d11 d12 d13 d14 d15 d16 d17 d18 d19 d20 kg k2 is2 hb5 hb6
        unfold auV at CG CSM
        dsimp only at CG CSM
        by_cases hrule : rule = 0
        case neg => as_aux_lemma =>
          have t1 : (rule != 0) = true := by simpa using hrule
          obtain hget := HFL.out hrule
          have hal : acc.length < fs.length := by
            rcases Nat.lt_or_ge acc.length fs.length with h | h
            · exact h
            · rw [List.getElem?_eq_none h] at hget; cases hget
          obtain ⟨bf, of, hA, hbf, e0, e1, _, _⟩ := (HA5.out.up D7.out).atF hal
          have hge : fs[acc.length] = ((i : Int), rule) := by rw [List.getElem?_eq_getElem hal] at hget; exact Option.some.inj hget
          rw [hge] at e0 e1
          dsimp only at e0 e1
          subst hA
          have q0 : (0 : Int) ≤ (acc.length : Int) := by omega
          have q1 : (acc.length : Int) < (fs.length : Int) := by omega
          have hss := Lib.hid (hsame.out (.inl hrule))
          have HPN' := Lib.hid (show PartI x l (i + 1) s' (acc ++ [((i : Int), rule)]) by have h := HPN.out; rw [if_pos hrule] at h; exact h)
          clear hget hge hrule
          go_wp2_with fail
          refine (CSM.out hss.out _ (Below.refl _ _)).mono ?_
          rintro e w10 ⟨rfl, hb10⟩
          clear a0 a1 a2 a3 a4 a5 a6 v0 v1 v2 v3 v4 v5 v6 b0 b1 b2 b3 b4 b5 b6 y0 y1
          have HBX := Lib.hid hb10
          clear hb10
          have kg := (KG.out.later HBX.out)
          have k2 := (KN.out.later HBX.out)
          have a0 := kg.c 0 _ rfl
          have a1 := kg.c 1 _ rfl
          have a2 := kg.c 2 _ rfl
          have a3 := kg.c 3 _ rfl
          have a4 := kg.c 4 _ rfl
          have a5 := kg.c 5 _ rfl
          have a6 := kg.c 6 _ rfl
          have v0 := kg.f 0
          have v1 := kg.f 1
          have v2 := kg.f 2
          have v3 := kg.f 3
          have v4 := kg.f 4
          have v5 := kg.f 5
          have v6 := kg.f 6
          have b0 := k2.c 0 _ rfl
          have b1 := k2.c 1 _ rfl
          have b2 := k2.c 2 _ rfl
          have b3 := k2.c 3 _ rfl
          have b4 := k2.c 4 _ rfl
          have b5 := k2.c 5 _ rfl
          have b6 := k2.c 6 _ rfl
          have y0 := kg.lt
          have y1 := k2.lt
          dsimp only at a0 a1 a2 a3 a4 a5 a6
          clear kg k2
          go_wp2_with fail
          refine (CG.out _ HBX.out).mono ?_
          rintro e w11 ⟨rfl, hb11⟩
          clear a0 a1 a2 a3 a4 a5 a6 v0 v1 v2 v3 v4 v5 v6 b0 b1 b2 b3 b4 b5 b6 y0 y1
          replace HBX := Lib.hid (HBX.out.trans (hb11.mono HBX.out.size))
          clear hb11
          have kg := (KG.out.later HBX.out)
          have k2 := (KN.out.later HBX.out)
          have a0 := kg.c 0 _ rfl
          have a1 := kg.c 1 _ rfl
          have a2 := kg.c 2 _ rfl
          have a3 := kg.c 3 _ rfl
          have a4 := kg.c 4 _ rfl
          have a5 := kg.c 5 _ rfl
          have a6 := kg.c 6 _ rfl
          have v0 := kg.f 0
          have v1 := kg.f 1
          have v2 := kg.f 2
          have v3 := kg.f 3
          have v4 := kg.f 4
          have v5 := kg.f 5
          have v6 := kg.f 6
          have b0 := k2.c 0 _ rfl
          have b1 := k2.c 1 _ rfl
          have b2 := k2.c 2 _ rfl
          have b3 := k2.c 3 _ rfl
          have b4 := k2.c 4 _ rfl
          have b5 := k2.c 5 _ rfl
          have b6 := k2.c 6 _ rfl
          have y0 := kg.lt
          have y1 := k2.lt
          dsimp only at a0 a1 a2 a3 a4 a5 a6
          clear kg k2
          go_wp2_with fail
          obtain ⟨kq, hgq⟩ := (KG.out.later HBX.out).put [.int .i64 s'.ve.shards, .int .i64 s'.ve.ttl, .int .i64 s'.ve.session, .slice F'.V s'.ve.secs.length F'.vc, .int .i64 s'.now, .slice F'.A s'.seats.length F'.ac, .slice F'.B s'.waiting.length F'.bc] rfl
          have hbX := D7.out.trans (HBX.out.mono D7.out.size)
          have hbq := hbX.grown hgq hbX.size (fun k hk => by injection hk with hk; have := HG.out; omega)
          have hiq := (IN.out.up HBX.out).set hgq
          go_roundw
          case rel => exact ⟨i + 1, acc ++ [((i : Int), rule)], s', F', by omega, by go_num, rfl, by simp, Lib.hid hbq, Lib.hid kq, Lib.hid hiq, HPN', by simp; omega⟩
          case measure => simp [intOf]; omega
        case pos =>
          subst hrule
          have HPN' := Lib.hid (show PartI x l (i + 1) s' acc by have h := HPN.out; rw [if_neg (by simp)] at h; exact h)
          have hat' := HHAT.out
          rw [HPE.out] at hat'
          have d12 : wc.cell? ⟨bl, off + i * 21 + 12, none⟩ = some (.int .i64 er2) := (hat'.up D8.out) 12 _ rfl
          clear hat'
          have hblw : bl < wc.heap.size := by have := D8.out.size; omega
          by_cases he2 : er2 = 0
          case neg => as_aux_lemma =>
            have t2 : (er2 != 0) = true := by simpa using he2
            have hss := Lib.hid (hsame.out (.inr he2))
            clear he2
            go_wp2_with fail
            refine (CSM.out hss.out _ (Below.refl _ _)).mono ?_
            rintro e w10 ⟨rfl, hb10⟩
            clear a0 a1 a2 a3 a4 a5 a6 v0 v1 v2 v3 v4 v5 v6 b0 b1 b2 b3 b4 b5 b6 y0 y1
            have HBX := Lib.hid hb10
            clear hb10
            have kg := (KG.out.later HBX.out)
            have k2 := (KN.out.later HBX.out)
            have a0 := kg.c 0 _ rfl
            have a1 := kg.c 1 _ rfl
            have a2 := kg.c 2 _ rfl
            have a3 := kg.c 3 _ rfl
            have a4 := kg.c 4 _ rfl
            have a5 := kg.c 5 _ rfl
            have a6 := kg.c 6 _ rfl
            have v0 := kg.f 0
            have v1 := kg.f 1
            have v2 := kg.f 2
            have v3 := kg.f 3
            have v4 := kg.f 4
            have v5 := kg.f 5
            have v6 := kg.f 6
            have b0 := k2.c 0 _ rfl
            have b1 := k2.c 1 _ rfl
            have b2 := k2.c 2 _ rfl
            have b3 := k2.c 3 _ rfl
            have b4 := k2.c 4 _ rfl
            have b5 := k2.c 5 _ rfl
            have b6 := k2.c 6 _ rfl
            have y0 := kg.lt
            have y1 := k2.lt
            dsimp only at a0 a1 a2 a3 a4 a5 a6
            clear kg k2
            go_wp2_with fail
            refine (CG.out _ HBX.out).mono ?_
            rintro e w11 ⟨rfl, hb11⟩
            clear a0 a1 a2 a3 a4 a5 a6 v0 v1 v2 v3 v4 v5 v6 b0 b1 b2 b3 b4 b5 b6 y0 y1
            replace HBX := Lib.hid (HBX.out.trans (hb11.mono HBX.out.size))
            clear hb11
            have kg := (KG.out.later HBX.out)
            have k2 := (KN.out.later HBX.out)
            have a0 := kg.c 0 _ rfl
            have a1 := kg.c 1 _ rfl
            have a2 := kg.c 2 _ rfl
            have a3 := kg.c 3 _ rfl
            have a4 := kg.c 4 _ rfl
            have a5 := kg.c 5 _ rfl
            have a6 := kg.c 6 _ rfl
            have v0 := kg.f 0
            have v1 := kg.f 1
            have v2 := kg.f 2
            have v3 := kg.f 3
            have v4 := kg.f 4
            have v5 := kg.f 5
            have v6 := kg.f 6
            have b0 := k2.c 0 _ rfl
            have b1 := k2.c 1 _ rfl
            have b2 := k2.c 2 _ rfl
            have b3 := k2.c 3 _ rfl
            have b4 := k2.c 4 _ rfl
            have b5 := k2.c 5 _ rfl
            have b6 := k2.c 6 _ rfl
            have y0 := kg.lt
            have y1 := k2.lt
            dsimp only at a0 a1 a2 a3 a4 a5 a6
            clear kg k2
            go_wp2_with fail
            obtain ⟨kq, hgq⟩ := (KG.out.later HBX.out).put [.int .i64 s'.ve.shards, .int .i64 s'.ve.ttl, .int .i64 s'.ve.session, .slice F'.V s'.ve.secs.length F'.vc, .int .i64 s'.now, .slice F'.A s'.seats.length F'.ac, .slice F'.B s'.waiting.length F'.bc] rfl
            have hbX := D7.out.trans (HBX.out.mono D7.out.size)
            have hbq := hbX.grown hgq hbX.size (fun k hk => by injection hk with hk; have := HG.out; omega)
            have hiq := (IN.out.up HBX.out).set hgq
            go_roundw
            case rel => exact ⟨i + 1, acc, s', F', by omega, by go_num, rfl, rfl, Lib.hid hbq, Lib.hid kq, Lib.hid hiq, HPN', by omega⟩
            case measure => simp [intOf]; omega
          case pos => as_aux_lemma =>
            subst he2
            go_wp2_with fail
            refine (CG.out _ (Below.refl _ _)).mono ?_
            rintro e w11 ⟨rfl, hb11⟩
            clear a0 a1 a2 a3 a4 a5 a6 v0 v1 v2 v3 v4 v5 v6 b0 b1 b2 b3 b4 b5 b6 y0 y1
            have HBX := Lib.hid hb11
            clear hb11
            have kg := (KG.out.later HBX.out)
            have k2 := (KN.out.later HBX.out)
            have a0 := kg.c 0 _ rfl
            have a1 := kg.c 1 _ rfl
            have a2 := kg.c 2 _ rfl
            have a3 := kg.c 3 _ rfl
            have a4 := kg.c 4 _ rfl
            have a5 := kg.c 5 _ rfl
            have a6 := kg.c 6 _ rfl
            have v0 := kg.f 0
            have v1 := kg.f 1
            have v2 := kg.f 2
            have v3 := kg.f 3
            have v4 := kg.f 4
            have v5 := kg.f 5
            have v6 := kg.f 6
            have b0 := k2.c 0 _ rfl
            have b1 := k2.c 1 _ rfl
            have b2 := k2.c 2 _ rfl
            have b3 := k2.c 3 _ rfl
            have b4 := k2.c 4 _ rfl
            have b5 := k2.c 5 _ rfl
            have b6 := k2.c 6 _ rfl
            have y0 := kg.lt
            have y1 := k2.lt
            dsimp only at a0 a1 a2 a3 a4 a5 a6
            clear kg k2
            go_wp2_with fail
            obtain ⟨kq, hgq⟩ := (KG.out.later HBX.out).put [.int .i64 s'.ve.shards, .int .i64 s'.ve.ttl, .int .i64 s'.ve.session, .slice F'.V s'.ve.secs.length F'.vc, .int .i64 s'.now, .slice F'.A s'.seats.length F'.ac, .slice F'.B s'.waiting.length F'.bc] rfl
            have hbX := D7.out.trans (HBX.out.mono D7.out.size)
            have hbq := hbX.grown hgq hbX.size (fun k hk => by injection hk with hk; have := HG.out; omega)
            have hiq := (IN.out.up HBX.out).set hgq
            go_roundw
            case rel => exact ⟨i + 1, acc, s', F', by omega, by go_num, rfl, rfl, Lib.hid hbq, Lib.hid kq, Lib.hid hiq, HPN', by omega⟩
            case measure => simp [intOf]; omega
end Go.Proofs.YtcomfhigbjkoeaaDoor
