/-
  No statement is proved here: the beginning of a slice; an operation of a drawn region on its own; what is known, and stays readable whatever is stored into one block. Conditions: as each theorem says.
  Walk of groundlingref32.Check. Conditions: as the theorem says.
-/
import Derived.Test.YtcomfhigbjkoeaaGreatDoorStA
import Derived.Test.YtcomfhigbjkoeaaGreatDoorLibT
import Derived.Deep.RegionHeld3
import Derived.Test.YtcomfhigbjkoeaaGreatDoorRuH
import Derived.Test.YtcomfhigbjkoeaaGreatDoorRuM
import Derived.Test.YtcomfhigbjkoeaaGreatDoorSmM
import Derived.Deep.CutRange
namespace Go.Proofs.YtcomfhigbjkoeaaGreatDoor
open Go.RowKit

theorem sl_init {α : Type} {R : Rep α} {w : World} {A : Option Addr} {n c k : Nat} {xs : List α} (h : Sl R w (.slice A n c) xs) (hk : k ≤ xs.length) : Sl R w (.slice A (xs.take k).length c) (xs.take k) := by
  obtain ⟨A', c', he, h1, h2, h3⟩ := h
  injection he with e1 e2 e3
  subst e1 e2 e3
  refine ⟨A, c, rfl, by rw [List.length_take]; omega, h2, ?_⟩
  rcases h3 with ⟨h3, h4⟩ | ⟨b, off, rfl, hb, h3⟩
  · exact .inl ⟨by rw [List.length_take]; omega, h4⟩
  · refine .inr ⟨b, off, rfl, hb, fun i x hx => h3 i x ?_⟩
    rw [List.getElem?_take] at hx
    split at hx
    · exact hx
    · cases hx

theorem held_op {P : Program} {l : List Oper} {Q : Exit → Act → World → Prop} {i : Nat} {o : Oper} {K' : Act → World → Prop} {a : Act} {w : World} (hi : l[i]? = some o) (h : ∀ K : Exit → Act → World → Prop, Hid (∀ a w, K' a w → K .normal a w) → wpList P l.toArray K [o] a w) : wpOp P l.toArray Q i K' a w := by
  have h1 := h (midQ Q K') (Lib.hid fun _ _ h => h)
  have hw : wpOp P l.toArray (midQ Q K') i (wpList P l.toArray (midQ Q K') []) a w := by
    unfold wpOp
    simp only [List.getElem?_toArray, hi]
    exact h1
  exact wpOp_mid hw

/-- What is known stays readable, whatever is stored into one block. -/
def KeepI (g : Nat) (W : World) (F : Frm) (s : Au) : Prop := ∀ W', W.grownBy W' (some g) → IsAu W' F s
theorem KeepI.is {g : Nat} {W : World} {F : Frm} {s : Au} (h : KeepI g W F s) : IsAu W F s := h W (World.grownBy.refl W _)
theorem KeepI.set {g : Nat} {W W' : World} {F : Frm} {s : Au} (h : KeepI g W F s) (hg : W.grownBy W' (some g)) : KeepI g W' F s := fun _ h2 => h _ (grownBy_trans hg h2)
theorem grown_of_below {W W' : World} (h : Below W.heap.size W W') (g : Nat) : W.grownBy W' (some g) := ⟨h.os, h.tape, h.output, h.size, fun k hk _ => h.block k hk⟩
theorem KeepI.up {g : Nat} {W W' : World} {F : Frm} {s : Au} (h : KeepI g W F s) (hb : Below W.heap.size W W') : KeepI g W' F s := h.set (grown_of_below hb g)
theorem KeepI.fresh {g B : Nat} {W : World} {F' : Frm} {s' : Au} (hv : ∀ W', W.grownBy W' (some g) → Sl secR W' (.slice F'.V s'.ve.secs.length F'.vc) s'.ve.secs) (h1 : Own seR 75 B W (.slice F'.A s'.seats.length F'.ac) s'.seats) (h2 : Own intR 3 B W (.slice F'.B s'.waiting.length F'.bc) s'.waiting) (hB : g < B)
    (bv : Bd s'.ve.shards ∧ Bd s'.ve.ttl ∧ Bd s'.ve.session) (bn : Bd s'.now) : KeepI g W F' s' := fun W' hg =>
  ⟨hv W' hg, (h1.kept hg (fun k hk e => by have := (h1.lt k hk).1; injection e with e; omega) (fun cs y h => seR_flat _ _ _ _ h)).sl, (h2.kept hg (fun k hk e => by have := (h2.lt k hk).1; injection e with e; omega) (fun cs y h => intR_flat _ _ _ _ h)).sl, bv, bn⟩

theorem new_now {x : Ve} (h : (newA x).2 = 0) : (newA x).1.now = 0 := by
  unfold newA at h ⊢
  split at h
  · rename_i h9; exact absurd h h9
  · rename_i h9; rw [if_neg h9]
end Go.Proofs.YtcomfhigbjkoeaaGreatDoor

namespace Go.Proofs.YtcomfhigbjkoeaaGreatDoor
open Go.RowKit

/-- What is known lies in rows of the call's own, none of them the block g. -/
structure Kp (B g : Nat) (W : World) (F : Frm) (s : Au) : Prop where
  is : IsAu W F s
  os : Own seR 75 B W (.slice F.A s.seats.length F.ac) s.seats
  ow : Own intR 3 B W (.slice F.B s.waiting.length F.bc) s.waiting
  gs : ∀ j, (Value.slice F.A s.seats.length F.ac).ownBlock = some j → j ≠ g
  gw : ∀ j, (Value.slice F.B s.waiting.length F.bc).ownBlock = some j → j ≠ g
theorem Kp.up {B g : Nat} {W W' : World} {F : Frm} {s : Au} (h : Kp B g W F s) (hb : Below W.heap.size W W') : Kp B g W' F s := ⟨h.is.up hb, h.os.up hb, h.ow.up hb, h.gs, h.gw⟩
theorem Kp.row {B g : Nat} {W W' : World} {F : Frm} {s : Au} {row : Option Nat} (h : Kp B g W F s) (hg : W.grownBy W' row) (hv : Sl secR W' (.slice F.V s.ve.secs.length F.vc) s.ve.secs) (h1 : ∀ j, (Value.slice F.A s.seats.length F.ac).ownBlock = some j → row ≠ some j) (h2 : ∀ j, (Value.slice F.B s.waiting.length F.bc).ownBlock = some j → row ≠ some j) : Kp B g W' F s :=
  ⟨⟨hv, (h.os.kept hg h1 (fun _ _ h => h)).sl, (h.ow.kept hg h2 (fun _ _ h => h)).sl, h.is.bv, h.is.bn⟩, h.os.kept hg h1 (fun _ _ h => h), h.ow.kept hg h2 (fun _ _ h => h), h.gs, h.gw⟩

set_option maxRecDepth 100000 in
set_option maxHeartbeats 16000000 in
theorem rcheckA_any {W : World} {V : Option Addr} {vc : Nat} {x : Ve} (hv : Sl secR W (.slice V x.secs.length vc) x.secs) (h1 : Bd x.shards) (h2 : Bd x.ttl) (h3 : Bd x.session) {L : Option Addr} {lc : Nat} {l : List (MOp × MRp)} (hl : Sl stR W (.slice L l.length lc) l) :
    Calls Tryz.prog 8 #[.agg #[.int .i64 x.shards, .int .i64 x.ttl, .int .i64 x.session, .slice V x.secs.length vc], .slice L l.length lc] W (CheckPost W x l) := by
  have hcap := hl.cap
  have CN := Lib.hid (fun w (hb : Below W.heap.size W w) => rnew_any (x := x) (hv.up hb))
  have hC := Lib.hid (show checkA x l = if (newA x).2 ≠ 0 then ([], (newA x).2) else if 1000 < l.length then ([], 3) else checkLoop (newA x).1 0 l [] from rfl)
  have hnok := Lib.hid (fun h => And.intro (new_ok (x := x) h) (new_ve2 (x := x) h))
  have hnow := Lib.hid (new_now2 (x := x))
  have HL := Lib.hid hl
  have HV := Lib.hid (And.intro hv (And.intro h1 (And.intro h2 h3)))
  unfold CheckPost
  unfold NewPost2 at CN
  obtain ⟨K, hK⟩ : ∃ K, checkA x l = K := ⟨_, rfl⟩
  rw [hK] at hC ⊢
  generalize newA x = N at CN hC hnok hnow
  obtain ⟨s0, en⟩ := N
  simp only at CN hC hnok hnow
  clear hv h1 h2 h3 hl hK
  obtain ⟨B, hB⟩ : ∃ B, W.heap.size = B := ⟨_, rfl⟩
  have HB := Lib.hid hB
  go_enter Tryz.func8, Tryz.ntmps8
  go_wp2_with fail
  refine (CN.out _ (ba _ _)).mono ?_
  rintro e w1 ⟨F0, rfl, hb, hF, _⟩
  have D1 := Lib.hid ((ba W _).trans (hb.mono (ba W _).size))
  have HF := Lib.hid hF
  have y0 : B < w1.heap.size := by have := hb.size; simp at this; omega
  clear hb hF CN
  unfold auV
  by_cases he : en = 0
  case neg => as_aux_lemma =>
    have t0 : (en == 0) = false := by simpa using he
    have t1 : (en != 0) = true := by simpa using he
    have hN := Lib.hid (show K = ([], en) by rw [hC.out, if_pos he])
    clear hC he hnok hnow HF
    go_wp2_with fail
    all_goals
      go_loopw [7, 8, 9] (fun ev ov iv wr => ev = .int .i64 en ∧ ov = .slice none 0 0 ∧ iv = .int .i64 0 ∧ Hid (Below W.heap.size W wr)) (fun _ _ _ _ => 0)
      case atStart => exact ⟨rfl, rfl, rfl, Lib.hid (bal D1.out)⟩
      case round =>
        obtain ⟨rfl, rfl, rfl, DD⟩ := hrel
        go_wp2_with fail
        all_goals (go_ret2; exact ⟨none, 0, by rw [hN.out]; rfl, by rw [hN.out]; exact Own.nil _ _ _ _, DD.out⟩)
  subst he
  by_cases hlong : 1000 < l.length
  case pos => as_aux_lemma =>
    have t0 : decide ((1000 : Int) < (l.length : Int)) = true := decide_eq_true (by omega)
    have hN := Lib.hid (show K = ([], 3) by rw [hC.out, if_neg (by simp), if_pos hlong])
    clear hC hnok hnow HF
    go_wp2_with fail
    all_goals
      go_loopw [7, 8, 9] (fun ev ov iv wr => ev = .int .i64 3 ∧ ov = .slice none 0 0 ∧ iv = .int .i64 0 ∧ Hid (Below W.heap.size W wr)) (fun _ _ _ _ => 0)
      case atStart => exact ⟨rfl, rfl, rfl, Lib.hid (bal D1.out)⟩
      case round =>
        obtain ⟨rfl, rfl, rfl, DD⟩ := hrel
        go_wp2_with fail
        all_goals (go_ret2; exact ⟨none, 0, by rw [hN.out]; rfl, by rw [hN.out]; exact Own.nil _ _ _ _, DD.out⟩)
  have t0 : decide ((1000 : Int) < (l.length : Int)) = false := decide_eq_false (by omega)
  have hlen : l.length ≤ 1000 := by omega
  obtain ⟨hok0, hve0⟩ := hnok.out (by first | trivial | rfl)
  obtain ⟨a, b, rfl, _, o1, o2⟩ := HF.out (by first | trivial | rfl)
  have hC2 := Lib.hid (show checkLoop s0 0 (l.drop 0) [] = K by rw [hC.out, if_neg (by simp), if_neg hlong]; rfl)
  have OK0 := Lib.hid hok0
  have hve := Lib.hid hve0
  clear hC hlong hnok HF hok0 hve0
  go_wp2_with fail
  obtain ⟨g, hg⟩ : ∃ g, w1.heap.size = g := ⟨_, rfl⟩
  rw [hg]
  have hKp : Kp B g (w1.alloc (.cells (auCells (ownF V vc a b s0) s0).toArray 37)) (ownF V vc a b s0) s0 := by
    have hbW := (ba w1 (.cells (auCells (ownF V vc a b s0) s0).toArray 37))
    have hsz : (w1.alloc (.cells (auCells (ownF V vc a b s0) s0).toArray 37)).heap.size = w1.heap.size + 1 := by simp
    have hB2 : B ≤ (W.alloc (.cells #[.int .i64 x.shards, .int .i64 x.ttl, .int .i64 x.session, .slice V x.secs.length vc] 24)).heap.size := by simp; omega
    refine ⟨⟨by rw [hve.out]; exact HV.out.1.up (bal D1.out), (o1.up hbW).sl, (o2.up hbW).sl, by rw [hve.out]; exact HV.out.2, by rw [hnow.out]; simp [Bd]⟩, (o1.up hbW).mono hB2, (o2.up hbW).mono hB2, fun j hj e => ?_, fun j hj e => ?_⟩
    · have := (o1.lt j hj).2; omega
    · have := (o2.lt j hj).2; omega
  refine at_world (fun w => Below W.heap.size W w ∧ Cells w g (auCells (ownF V vc a b s0) s0) ∧ Kp B g w (ownF V vc a b s0) s0) ⟨bal D1.out, Cells.newS _ _ _ _ hg.symm, hKp⟩ fun w2 ⟨hb2, k2, i2⟩ => ?_
  have D2 := Lib.hid hb2
  have K2 := Lib.hid k2
  have I2 := Lib.hid i2
  have HGB := Lib.hid (show B < g by omega)
  clear hb2 k2 i2 hKp o1 o2 hg t0 y0 D1 hnow hB
  have HFV := Lib.hid (show (ownF V vc a b s0).V = V ∧ (ownF V vc a b s0).vc = vc from ⟨rfl, rfl⟩)
  generalize ownF V vc a b s0 = F0 at K2 I2 HFV ⊢
  go_loopw [7, 8, 9] (fun ev ov iv wr => ∃ i acc s F er A c, i ≤ l.length ∧ iv = .int .i64 (i : Nat) ∧ ev = .int .i64 er ∧ ov = .slice A acc.length c ∧ acc.length ≤ i ∧ Hid (Below W.heap.size W wr) ∧ Hid (Cells wr g (auCells F s)) ∧ Hid (Kp B g wr F s) ∧ Hid (s.ve = x) ∧ Hid (F.V = V ∧ F.vc = vc) ∧ Hid (Aok s) ∧ Hid (Own faR 63 B wr ov acc) ∧ Hid (∀ j, ov.ownBlock = some j → j ≠ g) ∧
      Hid (if er = 0 then checkLoop s i (l.drop i) acc = K else K = ([], er))) (fun _ _ iv _ => l.length - (intOf iv).toNat)
  case atStart => exact ⟨0, [], s0, F0, 0, none, 0, by omega, rfl, rfl, rfl, by simp, D2, K2, I2, hve, HFV, OK0, Lib.hid (Own.nil _ _ _ _), Lib.hid (fun j hj => by cases hj), Lib.hid (by rw [if_pos rfl]; exact hC2.out)⟩
  case round =>
    obtain ⟨i, acc, s, F, er, A, c, hi, rfl, rfl, rfl, hacc, D, KS, IS, HVE, HFV2, OK, OA, OG, HC⟩ := hrel
    clear D2 K2 I2 hve OK0 hC2 HFV
    by_cases her : er = 0
    case neg => as_aux_lemma =>
      have t0 : (er == 0) = false := by simpa using her
      have t1 : (er != 0) = true := by simpa using her
      have hN := Lib.hid (show K = ([], er) by have h := HC.out; rw [if_neg her] at h; exact h)
      clear HC her
      go_wp2_with fail
      all_goals (go_ret2; exact ⟨none, 0, by rw [hN.out]; rfl, by rw [hN.out]; exact Own.nil _ _ _ _, D.out⟩)
    subst her
    have HC2 := Lib.hid (show checkLoop s i (l.drop i) acc = K by have h := HC.out; rw [if_pos rfl] at h; exact h)
    clear HC
    by_cases hlt : i < l.length
    case neg => as_aux_lemma =>
      obtain rfl : i = l.length := by omega
      have hN := Lib.hid (show K = (acc, 0) by have h := HC2.out; rw [List.drop_length] at h; exact h.symm)
      clear HC2
      go_wp2_with fail
      go_ret2
      exact ⟨A, c, by rw [hN.out]; rfl, by rw [hN.out, HB.out]; exact OA.out, D.out⟩
    have hi0 : (0 : Int) ≤ (i : Int) := by omega
    have hi1 : (i : Int) < (l.length : Int) := by omega
    obtain ⟨bl, off, cs2, hA2, hbl, his, hat⟩ := (HL.out.up D.out).at_ hlt
    subst hA2
    obtain ⟨rfl, ho, hr⟩ := his
    have CT := Lib.hid (fun w (hb : Below wr.heap.size wr w) => rstep_any (IS.out.is.up hb) ho hr)
    unfold StepPost StepOwn at CT
    rw [show stepA s l[i].1 l[i].2 = readA s l[i].1 l[i].2 by rw [stepA, if_neg (by simp [(good_iff s).2 OK.out])]] at CT
    have HC3 := Lib.hid (show checkLoop s i (l[i] :: l.drop (i + 1)) acc = K by rw [← List.drop_eq_getElem_cons hlt]; exact HC2.out)
    have hok' := Lib.hid (read_ok (op := l[i].1) (rp := l[i].2) OK.out)
    have hve' := Lib.hid ((read_ve s l[i].1 l[i].2).trans HVE.out)
    have hbd := read_bd s l[i].1 l[i].2
    have HHAT := Lib.hid (show At wr bl (off + i * 21) (stCells l[i]) from hat)
    simp only [checkLoop] at HC3
    generalize readA s l[i].1 l[i].2 = RR at CT HC3 hok' hve' hbd
    generalize l[i] = p at CT HHAT HC3
    obtain ⟨rule, er, s'⟩ := RR
    simp only at CT HC3 hok' hve' hbd
    obtain ⟨hb0, hb1, _⟩ := hbd
    have HBr := Lib.hid (show B ≤ wr.heap.size by have h1 := D.out.size; have h2 := HB.out; omega)
    have hgw0 := KS.out.lt
    clear hat ho hr HC2
    have kk := KS.out
    have u0 := kk.c 0 _ rfl
    have u1 := kk.c 1 _ rfl
    have u2 := kk.c 2 _ rfl
    have u3 := kk.c 3 _ rfl
    have u4 := kk.c 4 _ rfl
    have u5 := kk.c 5 _ rfl
    have u6 := kk.c 6 _ rfl
    have z0 := kk.lt
    clear kk
    unfold auV stV at CT
    go_upto_region 8 with fail
    clear u0 u1 u2 u3 u4 u5 u6 z0
    go_cut [10, 11, 12] from 25 to 54 (fun v10 v11 v12 W' => ∃ g2 F', v10 = .pointer (some ⟨g2, 0, none⟩) ∧ v11 = .int .i64 rule ∧ v12 = .int .i64 er ∧ Below wr.heap.size wr W' ∧ Cells W' g2 (auCells F' s') ∧ Kp B g W' F' s' ∧ g < g2 ∧ (F'.V = F.V ∧ F'.vc = F.vc))
    case first => as_aux_lemma =>
      have CT2 := Lib.hid (fun W (hb : Below wr.heap.size wr W) => (show Calls Tryz.prog 12 #[.agg (auCells F s).toArray, .agg (stCells p).toArray] W _ from CT.out W hb))
      have hsz1 : (Tryz.prog.info? 37).map (·.size) = some (auCells F s).length := by show _ = some 7; kernel_rfl
      have hsz2 : (Tryz.prog.info? 47).map (·.size) = some (stCells p).length := by show _ = some 21; kernel_rfl
      have hrow : ∀ W, Below wr.heap.size wr W → W.rangeAt bl (off + i * 21) (stCells p) := fun W hb => by
        exact (HHAT.out.up hb).range
      refine wp_region_held (S := fun W => Below wr.heap.size wr W) (by kernel_rfl) ?_
      refine wpAnyH_take (i := 0) rfl (by kernel_rfl) (by kernel_rfl) (by kernel_rfl) (fun _ _ _ h => h) (yieldsIf_load_mid rfl 37 (.tmp 6) rfl g 0 rfl (auCells F s) _ (fun W hb => (KS.out.later hb).range) Tryz.underlying37 rfl hsz1) (bdd (Below.refl _ _)) ?_
      refine wpAnyH_take (i := 1) (v := .slice (some ⟨bl, off, none⟩) l.length lc) rfl (by kernel_rfl) (by kernel_rfl) (by kernel_rfl) (fun _ _ _ h => h) (.inl ⟨rfl, fun W _ => by go_simp⟩) (bdd (Below.refl _ _)) ?_
      refine wpAnyH_take (i := 2) (v := .int .i64 (i : Int)) rfl (by kernel_rfl) (by kernel_rfl) (by kernel_rfl) (fun _ _ _ h => h) (.inl ⟨rfl, fun W _ => by go_simp⟩) (bdd (Below.refl _ _)) ?_
      refine wpAnyH_take (i := 3) (v := .pointer (some ⟨bl, off + i * 21, none⟩)) rfl (by kernel_rfl) (by kernel_rfl) (by kernel_rfl) (fun _ _ _ h => h) (.inl ⟨rfl, fun W _ => by go_simp⟩) (bdd (Below.refl _ _)) ?_
      refine wpAnyH_take (i := 4) rfl (by kernel_rfl) (by kernel_rfl) (by kernel_rfl) (fun _ _ _ h => h) (yieldsIf_load_mid rfl 47 (.tmp 39) rfl bl (off + i * 21) rfl (stCells p) _ hrow Tryz.underlying47 rfl hsz2) (bdd (Below.refl _ _)) ?_
      refine wpAnyH_all (rs := [5, 10]) (by kernel_rfl) (by simp) fun j hj => ?_
      simp only [List.mem_cons, List.not_mem_nil, or_false] at hj
      rcases hj with rfl | rfl
      · refine held_op rfl fun K hK => ?_
        go_wp2_with fail
        refine (CT2.out _ (bdd (Below.refl _ _))).mono ?_
        rintro e w9 ⟨F9, rfl, is9, hb9, ow9⟩
        have HS := Lib.hid (show Below wr.heap.size wr w9 from (bdd (Below.refl wr.heap.size wr)).trans hb9)
        have HI9 := Lib.hid is9
        clear is9 hb9
        go_wp2_with fail
        refine hK.out _ _ ⟨HS.out, ?_⟩
        clear hK K
        refine wpAnyH_take (i := 6) (v := (.tuple #[(.agg #[.int .i64 s'.ve.shards, .int .i64 s'.ve.ttl, .int .i64 s'.ve.session, .slice F9.V s'.ve.secs.length F9.vc, .int .i64 s'.now, .slice F9.A s'.seats.length F9.ac, .slice F9.B s'.waiting.length F9.bc]), .int .i64 rule, .int .i64 er])) rfl (by kernel_rfl) (by kernel_rfl) (by kernel_rfl) (fun _ _ _ h => h) (.inl ⟨rfl, fun W _ => by go_simp⟩) HS.out ?_
        refine wpAnyH_take (i := 7) (v := (.agg #[.int .i64 s'.ve.shards, .int .i64 s'.ve.ttl, .int .i64 s'.ve.session, .slice F9.V s'.ve.secs.length F9.vc, .int .i64 s'.now, .slice F9.A s'.seats.length F9.ac, .slice F9.B s'.waiting.length F9.bc])) rfl (by kernel_rfl) (by kernel_rfl) (by kernel_rfl) (fun _ _ _ h => h) (.inl ⟨rfl, fun W _ => by go_simp⟩) HS.out ?_
        refine wpAnyH_take (i := 8) (v := (.int .i64 rule)) rfl (by kernel_rfl) (by kernel_rfl) (by kernel_rfl) (fun _ _ _ h => h) (.inl ⟨rfl, fun W _ => by go_simp⟩) HS.out ?_
        refine wpAnyH_take (i := 9) (v := (.int .i64 er)) rfl (by kernel_rfl) (by kernel_rfl) (by kernel_rfl) (fun _ _ _ h => h) (.inl ⟨rfl, fun W _ => by go_simp⟩) HS.out ?_
        refine wpAnyH_all (rs := [10]) (by kernel_rfl) (by simp) fun j hj => ?_
        obtain rfl : j = 10 := by simpa using hj
        clear hj
        refine held_op rfl fun K hK => ?_
        go_wp2_with fail
        refine hK.out _ _ ⟨bal HS.out, ?_⟩
        clear hK K
        refine wpAnyH_all (rs := [11]) (by kernel_rfl) (by simp) fun j hj => ?_
        obtain rfl : j = 11 := by simpa using hj
        clear hj
        refine held_op rfl fun K hK => ?_
        go_wp2_with fail
        refine hK.out _ _ ⟨bal HS.out, ?_⟩
        clear hK K
        have hlt9 := HS.out.size
        have hgw := KS.out.lt
        have hiq : Kp B g (w9.alloc (.cells #[.int .i64 s'.ve.shards, .int .i64 s'.ve.ttl, .int .i64 s'.ve.session, .slice F9.V s'.ve.secs.length F9.vc, .int .i64 s'.now, .slice F9.A s'.seats.length F9.ac, .slice F9.B s'.waiting.length F9.bc] 37)) F9 s' := by
          rcases ow9 with ⟨rfl, rfl⟩ | ⟨e1, e2, e3, o1, o2⟩
          · exact IS.out.up (bal HS.out)
          · have p1 := o1.up (ba w9 (.cells #[.int .i64 s'.ve.shards, .int .i64 s'.ve.ttl, .int .i64 s'.ve.session, .slice F9.V s'.ve.secs.length F9.vc, .int .i64 s'.now, .slice F9.A s'.seats.length F9.ac, .slice F9.B s'.waiting.length F9.bc] 37))
            have p2 := o2.up (ba w9 (.cells #[.int .i64 s'.ve.shards, .int .i64 s'.ve.ttl, .int .i64 s'.ve.session, .slice F9.V s'.ve.secs.length F9.vc, .int .i64 s'.now, .slice F9.A s'.seats.length F9.ac, .slice F9.B s'.waiting.length F9.bc] 37))
            exact ⟨⟨by rw [e1, e2, e3]; exact (IS.out.up (bal HS.out)).is.vs, p1.sl, p2.sl, HI9.out.bv, HI9.out.bn⟩, p1.mono HBr.out, p2.mono HBr.out, fun j hj e => by have h1 : wr.heap.size ≤ j := (o1.lt j hj).1; omega, fun j hj e => by have h1 : wr.heap.size ≤ j := (o2.lt j hj).1; omega⟩
        refine at_world (fun W => Below wr.heap.size wr W ∧ Cells W w9.heap.size (auCells F9 s') ∧ Kp B g W F9 s') ⟨bal HS.out, Cells.newS _ _ _ _ rfl, hiq⟩ fun W10 ⟨hb10, k10, i10⟩ => ?_
        refine wpAnyH_all (rs := [12]) (by kernel_rfl) (by simp) fun j hj => ?_
        obtain rfl : j = 12 := by simpa using hj
        clear hj
        refine held_op rfl fun K hK => ?_
        go_wp2_with fail
        refine hK.out _ _ ⟨hb10, ?_⟩
        clear hK K
        refine wpAnyH_all (rs := [13]) (by kernel_rfl) (by simp) fun j hj => ?_
        obtain rfl : j = 13 := by simpa using hj
        clear hj
        refine held_op rfl fun K hK => ?_
        go_wp2_with fail
        refine hK.out _ _ ⟨hb10, ?_⟩
        clear hK K
        refine wpAnyH_done (by kernel_rfl) ?_ _
        go_wp2_with fail
        go_meet
        exact ⟨_, F9, rfl, rfl, rfl, hb10, k10, i10, by omega, by rcases ow9 with ⟨rfl, _⟩ | ⟨e1, e2, _⟩; exact ⟨rfl, rfl⟩; exact ⟨e1, e2⟩⟩
      · refine held_op rfl fun K hK => ?_
        go_wp2_with fail
        refine hK.out _ _ ⟨bdd (ba _ _), ?_⟩
        clear hK K
        refine wpAnyH_all (rs := [5]) (by kernel_rfl) (by simp) fun j hj => ?_
        obtain rfl : j = 5 := by simpa using hj
        clear hj
        refine held_op rfl fun K hK => ?_
        go_wp2_with fail
        refine (CT2.out _ (bdd (ba _ _))).mono ?_
        rintro e w9 ⟨F9, rfl, is9, hb9, ow9⟩
        have HS := Lib.hid (show Below wr.heap.size wr w9 from (bdd (ba wr (.cells #[.int .i64 0, .int .i64 0, .int .i64 0, .slice none 0 0, .int .i64 0, .slice none 0 0, .slice none 0 0] 37))).trans (hb9.mono (show wr.heap.size ≤ ((wr.alloc (.cells #[.int .i64 0, .int .i64 0, .int .i64 0, .slice none 0 0, .int .i64 0, .slice none 0 0, .slice none 0 0] 37)).drew).heap.size by simp)))
        have KZ := Lib.hid (Cells.later (Cells.drew (Cells.new wr [.int .i64 0, .int .i64 0, .int .i64 0, .slice none 0 0, .int .i64 0, .slice none 0 0, .slice none 0 0] 37)) hb9)
        have HI9 := Lib.hid is9
        clear is9 hb9
        go_wp2_with fail
        refine hK.out _ _ ⟨HS.out, ?_⟩
        clear hK K
        refine wpAnyH_take (i := 6) (v := (.tuple #[(.agg #[.int .i64 s'.ve.shards, .int .i64 s'.ve.ttl, .int .i64 s'.ve.session, .slice F9.V s'.ve.secs.length F9.vc, .int .i64 s'.now, .slice F9.A s'.seats.length F9.ac, .slice F9.B s'.waiting.length F9.bc]), .int .i64 rule, .int .i64 er])) rfl (by kernel_rfl) (by kernel_rfl) (by kernel_rfl) (fun _ _ _ h => h) (.inl ⟨rfl, fun W _ => by go_simp⟩) HS.out ?_
        refine wpAnyH_take (i := 7) (v := (.agg #[.int .i64 s'.ve.shards, .int .i64 s'.ve.ttl, .int .i64 s'.ve.session, .slice F9.V s'.ve.secs.length F9.vc, .int .i64 s'.now, .slice F9.A s'.seats.length F9.ac, .slice F9.B s'.waiting.length F9.bc])) rfl (by kernel_rfl) (by kernel_rfl) (by kernel_rfl) (fun _ _ _ h => h) (.inl ⟨rfl, fun W _ => by go_simp⟩) HS.out ?_
        refine wpAnyH_take (i := 8) (v := (.int .i64 rule)) rfl (by kernel_rfl) (by kernel_rfl) (by kernel_rfl) (fun _ _ _ h => h) (.inl ⟨rfl, fun W _ => by go_simp⟩) HS.out ?_
        refine wpAnyH_take (i := 9) (v := (.int .i64 er)) rfl (by kernel_rfl) (by kernel_rfl) (by kernel_rfl) (fun _ _ _ h => h) (.inl ⟨rfl, fun W _ => by go_simp⟩) HS.out ?_
        have kz := KZ.out
        have x0 := kz.c 0 _ rfl
        have x1 := kz.c 1 _ rfl
        have x2 := kz.c 2 _ rfl
        have x3 := kz.c 3 _ rfl
        have x4 := kz.c 4 _ rfl
        have x5 := kz.c 5 _ rfl
        have x6 := kz.c 6 _ rfl
        have v0 := kz.f 0
        have v1 := kz.f 1
        have v2 := kz.f 2
        have v3 := kz.f 3
        have v4 := kz.f 4
        have v5 := kz.f 5
        have v6 := kz.f 6
        have xl := kz.lt
        clear kz
        refine wpAnyH_all (rs := [11]) (by kernel_rfl) (by simp) fun j hj => ?_
        obtain rfl : j = 11 := by simpa using hj
        clear hj
        refine held_op rfl fun K hK => ?_
        go_wp2_with fail
        obtain ⟨kq, hgq⟩ := KZ.out.put [.int .i64 s'.ve.shards, .int .i64 s'.ve.ttl, .int .i64 s'.ve.session, .slice F9.V s'.ve.secs.length F9.vc, .int .i64 s'.now, .slice F9.A s'.seats.length F9.ac, .slice F9.B s'.waiting.length F9.bc] rfl
        have hbq : Below wr.heap.size wr _ := HS.out.grown hgq HS.out.size (fun k hk => by injection hk; omega)
        have hgw := KS.out.lt
        have hiq : Kp B g (putAt w9 wr.heap.size 0 [.int .i64 s'.ve.shards, .int .i64 s'.ve.ttl, .int .i64 s'.ve.session, .slice F9.V s'.ve.secs.length F9.vc, .int .i64 s'.now, .slice F9.A s'.seats.length F9.ac, .slice F9.B s'.waiting.length F9.bc]) F9 s' := by
          rcases ow9 with ⟨rfl, rfl⟩ | ⟨e1, e2, e3, o1, o2⟩
          · exact IS.out.up hbq
          · have p1 := o1.kept hgq (fun k hk e => by have := (o1.lt k hk).1; injection e with e; simp at this; omega) (fun cs y h => seR_flat _ _ _ _ h)
            have p2 := o2.kept hgq (fun k hk e => by have := (o2.lt k hk).1; injection e with e; simp at this; omega) (fun cs y h => intR_flat _ _ _ _ h)
            have hBr := HBr.out
            have q1 : ∀ j, (Value.slice F9.A s'.seats.length F9.ac).ownBlock = some j → wr.heap.size + 1 ≤ j := fun j hj => by have := (o1.lt j hj).1; simpa using this
            have q2 : ∀ j, (Value.slice F9.B s'.waiting.length F9.bc).ownBlock = some j → wr.heap.size + 1 ≤ j := fun j hj => by have := (o2.lt j hj).1; simpa using this
            have p3 := p1.mono (B' := B) (by simp; omega)
            have p4 := p2.mono (B' := B) (by simp; omega)
            have hvs := (IS.out.up hbq).is.vs
            rw [← e1, ← e2, ← e3] at hvs
            clear o1 o2 p1 p2 e1 e2 e3
            exact Kp.mk (IsAu.mk hvs p3.sl p4.sl HI9.out.bv HI9.out.bn) p3 p4 (fun j hj e => by have := q1 j hj; omega) (fun j hj e => by have := q2 j hj; omega)
        refine hK.out _ _ ⟨hbq, ?_⟩
        clear hK K
        refine at_world (fun W => Below wr.heap.size wr W ∧ Cells W wr.heap.size (auCells F9 s') ∧ Kp B g W F9 s') ⟨hbq, kq, hiq⟩ fun W10 ⟨hb10, k10, i10⟩ => ?_
        refine wpAnyH_all (rs := [12]) (by kernel_rfl) (by simp) fun j hj => ?_
        obtain rfl : j = 12 := by simpa using hj
        clear hj
        refine held_op rfl fun K hK => ?_
        go_wp2_with fail
        refine hK.out _ _ ⟨hb10, ?_⟩
        clear hK K
        refine wpAnyH_all (rs := [13]) (by kernel_rfl) (by simp) fun j hj => ?_
        obtain rfl : j = 13 := by simpa using hj
        clear hj
        refine held_op rfl fun K hK => ?_
        go_wp2_with fail
        refine hK.out _ _ ⟨hb10, ?_⟩
        clear hK K
        refine wpAnyH_done (by kernel_rfl) ?_ _
        go_wp2_with fail
        go_meet
        exact ⟨_, F9, rfl, rfl, rfl, hb10, k10, i10, by omega, by rcases ow9 with ⟨rfl, _⟩ | ⟨e1, e2, _⟩; exact ⟨rfl, rfl⟩; exact ⟨e1, e2⟩⟩
    case rest =>
      obtain ⟨g2, F', rfl, rfl, rfl, hb5, k2, is2, hlt2, hfv⟩ := hcut
      have DD := Lib.hid (D.out.trans (hb5.mono D.out.size))
      have KG := Lib.hid (KS.out.later hb5)
      have KN := Lib.hid k2
      have IN := Lib.hid is2
      have OA2 := Lib.hid (OA.out.up hb5)
      have HFV3 := Lib.hid (show F'.V = V ∧ F'.vc = vc from ⟨hfv.1.trans HFV2.out.1, hfv.2.trans HFV2.out.2⟩)
      clear hb5 k2 is2 KS IS OA D hgw0 CT HHAT HVE OK HFV2 hfv
      have kk := KG.out
      have a0 := kk.c 0 _ rfl
      have a1 := kk.c 1 _ rfl
      have a2 := kk.c 2 _ rfl
      have a3 := kk.c 3 _ rfl
      have a4 := kk.c 4 _ rfl
      have a5 := kk.c 5 _ rfl
      have a6 := kk.c 6 _ rfl
      have v0 := kk.f 0
      have v1 := kk.f 1
      have v2 := kk.f 2
      have v3 := kk.f 3
      have v4 := kk.f 4
      have v5 := kk.f 5
      have v6 := kk.f 6
      have y0 := kk.lt
      clear kk
      have kk := KN.out
      have b0 := kk.c 0 _ rfl
      have b1 := kk.c 1 _ rfl
      have b2 := kk.c 2 _ rfl
      have b3 := kk.c 3 _ rfl
      have b4 := kk.c 4 _ rfl
      have b5 := kk.c 5 _ rfl
      have b6 := kk.c 6 _ rfl
      have y1 := kk.lt
      clear kk
      go_upto_region 10 with fail
      obtain ⟨kq, hgq⟩ := KG.out.put (auCells F' s') rfl
      have hbq : Below W.heap.size W (putAt wc g 0 (auCells F' s')) := DD.out.grown hgq DD.out.size (fun k hk => by injection hk with hk; have h1 := HGB.out; have h2 := HB.out; omega)
      have hall : Below W.heap.size W (putAt wc g 0 (auCells F' s')) ∧ Cells (putAt wc g 0 (auCells F' s')) g (auCells F' s') ∧ Kp B g (putAt wc g 0 (auCells F' s')) F' s' ∧ Own faR 63 B (putAt wc g 0 (auCells F' s')) (.slice A acc.length c) acc :=
        ⟨hbq, kq, IN.out.row hgq (by rw [HFV3.out.1, HFV3.out.2, hve'.out]; exact HV.out.1.up hbq) (fun j hj e => by injection e with e; exact IN.out.gs j hj e.symm) (fun j hj e => by injection e with e; exact IN.out.gw j hj e.symm), OA2.out.kept hgq (fun j hj e => by injection e with e; exact OG.out j hj e.symm) (fun _ _ h => h)⟩
      clear kq hbq hgq
      refine at_world (fun w => Below W.heap.size W w ∧ Cells w g (auCells F' s') ∧ Kp B g w F' s' ∧ Own faR 63 B w (.slice A acc.length c) acc) hall fun w10 ⟨hb10, k10, i10, o10⟩ => ?_
      have D4 := Lib.hid hb10
      have K4 := Lib.hid k10
      have I4 := Lib.hid i10
      have OA4 := Lib.hid o10
      clear hb10 k10 i10 o10 hall a0 a1 a2 a3 a4 a5 a6 v0 v1 v2 v3 v4 v5 v6 b0 b1 b2 b3 b4 b5 b6 y0 y1 KG KN IN OA2 DD hlt2
      by_cases hrule : rule = 0
      case pos => as_aux_lemma =>
        subst hrule
        have hnext := Lib.hid (show if er = 0 then checkLoop s' (i + 1) (l.drop (i + 1)) acc = K else K = ([], er) by
          have h := HC3.out
          by_cases he : er = 0
          · rw [if_pos he]; rw [if_neg (by simp [he])] at h; simpa using h
          · rw [if_neg he]; rw [if_pos he] at h; exact h.symm)
        clear HC3
        go_wp2_with fail
        go_roundw
        case rel => exact ⟨i + 1, acc, s', F', er, A, c, by omega, by go_num, rfl, rfl, by omega, D4, K4, I4, hve', HFV3, hok', OA4, OG, hnext⟩
        case measure => simp [intOf]; omega
      case neg => as_aux_lemma =>
        have t1 : (rule != 0) = true := by simpa using hrule
        have hnext := Lib.hid (show if er = 0 then checkLoop s' (i + 1) (l.drop (i + 1)) (acc ++ [((i : Int), rule)]) = K else K = ([], er) by
          have h := HC3.out
          by_cases he : er = 0
          · rw [if_pos he]; rw [if_neg (by simp [he]), if_pos hrule] at h; exact h
          · rw [if_neg he]; rw [if_pos he] at h; exact h.symm)
        have y4 : B ≤ w10.heap.size := by have h1 := D4.out.size; have h2 := HB.out; omega
        have hgl := K4.out.lt
        clear HC3 hrule
        go_wp2_with (at_builtin; refine wpList_append_sl _ rfl (.tmp 49) (.tmp 53) 28 rfl faR B 63 _ 16 Tryz.underlying28 infoF rfl (by decide) _ acc rfl (OA4.out.up (ba _ _)) _ [((i : Int), rule)] rfl (sl_two _ _ _ _ rfl (by unfold Bd; simp; omega) (by unfold Bd; simp; omega)) (by simp; omega) (by decide) (by simp; omega) (fun w' _ cs y h => faR_flat _ _ _ _ h) ?_; intro v1 w11 hown1 hg1 hat1)
        obtain ⟨A1, c1, rfl, _, _, ho1⟩ := hown1.form
        have ap1 := OA4.out.apart I4.out.os (by decide)
        have ap2 := OA4.out.apart I4.out.ow (by decide)
        have hbW : Below W.heap.size W w11 := (D4.out.trans ((ba w10 (.cells #[.int .i64 (i : Int), .int .i64 rule] 63)).mono D4.out.size)).grown hg1 (by have := D4.out.size; simp; omega) (fun j hj => by have h1 := (OA4.out.lt j hj).1; have h2 := HB.out; omega)
        have HW := Lib.hid hbW
        have HK := Lib.hid ((K4.out.alloc (.cells #[.int .i64 (i : Int), .int .i64 rule] 63)).grown hg1 (fun e => OG.out g e rfl))
        have HI := Lib.hid ((I4.out.up (ba w10 (.cells #[.int .i64 (i : Int), .int .i64 rule] 63))).row hg1 (by rw [HFV3.out.1, HFV3.out.2, hve'.out]; exact HV.out.1.up hbW) (fun j hj e => ap1 j e hj) (fun j hj e => ap2 j e hj))
        have HO1 := Lib.hid ho1
        have HT1 := Lib.hid hat1
        clear hown1 hg1 hat1 ho1 hbW ap1 ap2
        go_roundw
        case rel =>
          refine ⟨i + 1, acc ++ [((i : Int), rule)], s', F', er, A1, c1, by omega, by go_num, rfl, rfl, by simp; omega, HW, HK, HI, hve', HFV3, hok', HO1, Lib.hid fun j hj => ?_, hnext⟩
          rcases HT1.out with h | h
          · exact OG.out j (show (Value.slice A acc.length c).ownBlock = some j from h.symm.trans hj)
          · rw [hj] at h; injection h with h; simp at h; omega
        case measure => simp [intOf]; omega
end Go.Proofs.YtcomfhigbjkoeaaGreatDoor
