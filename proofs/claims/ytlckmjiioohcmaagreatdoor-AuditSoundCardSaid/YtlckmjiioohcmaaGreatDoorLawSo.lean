/-
  Walk of the law AuditSound. Conditions: the pinned table lies where it was laid.
-/
import Derived.Test.YtlckmjiioohcmaaGreatDoorPyd
import Derived.Test.YtlckmjiioohcmaaGreatDoorKpA
namespace Go.Proofs.YtlckmjiioohcmaaGreatDoor
open Go.RowKit
structure LooseU (lo : Nat) (W Y : World) : Prop where
  os : Y.os = W.os
  tape : Y.tape = W.tape
  output : Y.output = W.output
  size : W.heap.size ≤ Y.heap.size
  old : ∀ k, k < W.heap.size → k < lo → Y.heap[k]? = W.heap[k]?
  seats : ∀ k, Tag W k 107 → Y.heap[k]? = W.heap[k]?
  ints : ∀ k, Tag W k 3 → Y.heap[k]? = W.heap[k]?
theorem LooseU.of {lo : Nat} {W Y : World} (h : Below W.heap.size W Y) : LooseU lo W Y :=
  ⟨h.os, h.tape, h.output, h.size, fun k hk _ => h.block k hk, fun k ht => h.block k ht.lt, fun k ht => h.block k ht.lt⟩
theorem LooseU.trans {lo : Nat} {W X Y : World} (h : LooseU lo W X) (k : LooseU lo X Y) : LooseU lo W Y :=
  ⟨k.os.trans h.os, k.tape.trans h.tape, k.output.trans h.output, Nat.le_trans h.size k.size, fun i hi hl => (k.old i (Nat.lt_of_lt_of_le hi h.size) hl).trans (h.old i hi hl),
   fun i ht => (k.seats i (ht.of_eq (h.seats i ht))).trans (h.seats i ht), fun i ht => (k.ints i (ht.of_eq (h.ints i ht))).trans (h.ints i ht)⟩
theorem LooseU.grown {lo x : Nat} {W Y : World} {t : TypeId} (hg : W.grownBy Y (some x)) (hx : Tag W x t) (hl : lo ≤ x) (n2 : t ≠ 107) (n3 : t ≠ 3) : LooseU lo W Y :=
  ⟨hg.os, hg.tape, hg.output, hg.size, fun k hk h => hg.block k hk (fun e => by injection e with e; omega), fun k ht => hg.block k ht.lt (fun e => ht.ne hx (Ne.symm n2) (by injection e)), fun k ht => hg.block k ht.lt (fun e => ht.ne hx (Ne.symm n3) (by injection e))⟩
theorem LooseU.below {lo : Nat} {W Y : World} (h : LooseU lo W Y) (hl : lo ≤ W.heap.size) : Below lo W Y := ⟨h.os, h.tape, h.output, h.size, fun k hk => h.old k (Nat.lt_of_lt_of_le hk hl) hk⟩
def AuKeep (lo : Nat) (W : World) (F : Frm) (s : Au) : Prop := ∀ Y, LooseU lo W Y → IsAu Y F s
theorem AuKeep.is {lo : Nat} {W : World} {F : Frm} {s : Au} (h : AuKeep lo W F s) : IsAu W F s := h W (LooseU.of (Below.refl _ _))
theorem AuKeep.up {lo : Nat} {W X : World} {F : Frm} {s : Au} (h : AuKeep lo W F s) (hl : LooseU lo W X) : AuKeep lo X F s := fun Y hY => h Y (hl.trans hY)
theorem Own.tag {α : Type} {R : Rep α} {e : TypeId} {B k : Nat} {W : World} {v : Value} {xs : List α} (h : Own R e B W v xs) (hk : v.ownBlock = some k) : Tag W k e := by
 obtain ⟨_, ho, _⟩ := h
 rcases ho.2 with ⟨rfl, _⟩ | ⟨g, cap, cur, rfl, _, h, _⟩
 ·cases hk
 ·cases hk
  exact ⟨_, _, h⟩
theorem AuKeep.new {w W : World} {V : Option Addr} {vc a b : Nat} {s : Au} (hv : Sl secR w (.slice V s.ve.secs.length vc) s.ve.secs) (hb : Below w.heap.size w W) (h1 : Own seR 107 w.heap.size W (.slice (some ⟨a, 0, none⟩) s.seats.length s.seats.length) s.seats) (h2 : Own intR 3 w.heap.size W (.slice (some ⟨b, 0, none⟩) s.waiting.length s.waiting.length) s.waiting)
    (bv : Bd s.ve.shards ∧ Bd s.ve.ttl ∧ Bd s.ve.session) (bn : Bd s.now) : AuKeep w.heap.size W (ownF V vc a b s) s := fun _ hY =>
  ⟨hv.up (hb.trans (hY.below hb.size)), (h1.same (fun k hk => hY.seats k (h1.tag hk)) seR_flat).sl, (h2.same (fun k hk => hY.ints k (h2.tag hk)) intR_flat).sl, bv, bn⟩
theorem AuKeep.step {lo : Nat} {W X : World} {F F' : Frm} {s s' : Au} (h : AuKeep lo W F s) (hb : Below W.heap.size W X) (ho : StepOwn W F s F' s' X) (hi : IsAu X F' s') : AuKeep lo X F' s' := by
 rcases ho with ⟨rfl, rfl⟩ | ⟨e1, e2, e3, o1, o2⟩
 ·exact h.up (LooseU.of hb)
 ·exact fun Y hY => ⟨by rw [e1, e2, e3]; exact (h Y ((LooseU.of hb).trans hY)).vs, (o1.same (fun k hk => hY.seats k (o1.tag hk)) seR_flat).sl, (o2.same (fun k hk => hY.ints k (o2.tag hk)) intR_flat).sl, hi.bv, hi.bn⟩
theorem runA_ok {s : Au} (h : Aok s) (l : List (MOp × MRp)) : Aok (runA s l) := by
  have : ∀ (l : List (MOp × MRp)) (s : Au), Aok s → Aok (runA s l) := by
    intro l
    induction l with
    | nil => intro s h; exact h
    | cons p l ih => intro s h; exact ih _ (read_ok h)
  exact this l s h
theorem runA_succ (s : Au) {l : List (MOp × MRp)} {i : Nat} (h : i < l.length) : runA s (l.take (i + 1)) = (readA (runA s (l.take i)) l[i].1 l[i].2).2.2 := by
 rw [List.take_succ_eq_append_getElem h]
 unfold runA
 rw [List.foldl_append]
 rfl
set_option maxRecDepth 20000 in
set_option maxHeartbeats 8000000 in
theorem lawSound_any {w : World} {V : Option Addr} {vc : Nat} {x : Ve} (hv : Sl secR w (.slice V x.secs.length vc) x.secs) (hb1 : Bd x.shards) (hb2 : Bd x.ttl) (hb3 : Bd x.session) {A : Option Addr} {c : Nat} {ops : List MOp} (ho : Sl opR w (.slice A ops.length c) ops) (hu : UsesAt w) :
    Calls Tryz.prog 6 #[.agg #[.int .i64 x.shards, .int .i64 x.ttl, .int .i64 x.session, .slice V x.secs.length vc], .slice A ops.length c] w fun e w' => e = .returned (.bool true) ∧ Below w.heap.size w w' := by
 have hcap := ho.cap
 have hops : ∀ op, op ∈ ops → OpOk op := fun op hop => by
  obtain ⟨j, hj, rfl⟩ := List.getElem_of_mem hop
  obtain ⟨_, _, _, _, _, ⟨_, h⟩, _⟩ := ho.at_ hj
  exact h
 have HU := Lib.hid hu
 have CF := Lib.hid (fun W (hb : Below w.heap.size w W) => far_any (hv.up hb))
 have CY := Lib.hid (fun W (hb : Below w.heap.size w W) (hl : ops.length ≤ 1000) => played_any (hv.up hb) hb1 hb2 hb3 (ho.up hb) hl (hu.up hb hu.1))
 have CC := Lib.hid (fun (l : List (MOp × MRp)) (L : Option Addr) (lc : Nat) W (hb : Below w.heap.size w W) (hl : Sl stR W (.slice L l.length lc) l) => auCheck_any (hv.up hb) hb1 hb2 hb3 hl)
 have CN := Lib.hid (fun W (hb : Below w.heap.size w W) => new_anyA (hv.up hb) hb1 hb2 hb3)
 have HG := Lib.hid (fun h (hl : ops.length ≤ 1000) => rec_good (x := x) h hops hl)
 have HV := Lib.hid (And.intro hv (And.intro hb1 (And.intro hb2 hb3)))
 have HNW := Lib.hid (fun h => (new_coup (x := x) h).1)
 unfold FarPost at CF
 unfold PlayedPost at CY
 unfold CheckPost at CC
 unfold NewPostA at CN
 clear hv ho hu hops
 go_enter Tryz.func6, Tryz.ntmps6
 go_upto_region 1 with fail
 refine at_world (fun X => Below w.heap.size w X ∧ BoxN X w.heap.size 24 #[.int .i64 x.shards, .int .i64 x.ttl, .int .i64 x.session, .slice V x.secs.length vc]) ⟨ba _ _, BoxN.new _ _ _⟩ fun w0 hw0 => ?_
 have B0 := Lib.hid hw0.1
 have K0 := Lib.hid hw0.2
 clear hw0
 obtain ⟨a0, -, a1, -, a2, -, a3, -, z0⟩ := K0.out.x4
 go_cut [21] from 15 to 21 (fun v W => ∃ tb : Bool, v = .bool tb ∧ Hid (tb = false → ops.length ≤ 100) ∧ Below w0.heap.size w0 W)
 case first => as_aux_lemma =>
  go_wp2_with fail
  refine (CF.out _ B0.out).mono ?_
  rintro e w1 ⟨b, rfl, hb⟩
  have HB := Lib.hid hb
  clear hb
  cases b
  case true =>
   go_wp2_with fail
   go_meet
   exact ⟨_, rfl, Lib.hid (fun h => by cases h), HB.out⟩
  by_cases h1 : 100 < ops.length
  case neg =>
   have t1 : decide ((100 : Int) < (ops.length : Int)) = false := decide_eq_false (by omega)
   have t1' : decide (100 < ops.length) = false := decide_eq_false (by omega)
   have H1 := Lib.hid (show ops.length ≤ 100 by omega)
   clear h1
   go_wp2_with fail
   go_meet
   exact ⟨_, rfl, Lib.hid (fun _ => H1.out), HB.out⟩
  have t1 : decide ((100 : Int) < (ops.length : Int)) = true := decide_eq_true (by omega)
  have t1' : decide (100 < ops.length) = true := decide_eq_true (by omega)
  go_wp2_with fail
  go_meet
  exact ⟨_, rfl, Lib.hid (fun h => by cases h), HB.out⟩
 case rest =>
 obtain ⟨tb, rfl, HTB, hb⟩ := hcut
 rename World => w1
 have B1 := Lib.hid (B0.out.trans (hb.mono B0.out.size))
 have K1 := Lib.hid (K0.out.later hb)
 clear hb a0 a1 a2 a3 z0 K0 B0 CF
 obtain ⟨a0, -, a1, -, a2, -, a3, -, z0⟩ := K1.out.x4
 cases tb
 case true =>
  go_wp2_with fail
  refine (awake_any _).mono ?_
  rintro e w9 ⟨rfl, hb9⟩
  go_wp2_with fail
  go_ret
  exact ⟨rfl, B1.out.trans (hb9.mono B1.out.size)⟩
 have hl100 := HTB.out rfl
 have HL1 := Lib.hid hl100
 clear HTB
 go_wp2_with fail
 refine (CY.out _ B1.out (by omega)).mono ?_
 rintro e w2 ⟨L, lc, rfl, hl, hb⟩
 have B2 := Lib.hid (B1.out.trans (hb.mono B1.out.size))
 have K2 := Lib.hid (K1.out.later hb)
 have HL := Lib.hid (hl.mono B1.out.size)
 clear hb hl a0 a1 a2 a3 z0 K1 B1 CY
 by_cases hE : (newM x).2 = 0
 case neg =>
  have t2 : decide ((newM x).2 = 0) = false := decide_eq_false hE
  have e9 : (if (newM x).2 = 0 then (recTo (newM x).1 ops).2 else []) = [] := if_neg hE
  simp only [t2]
  rw [e9]
  clear hE t2 HL e9
  go_wp2_with fail
  refine (awake_any _).mono ?_
  rintro e w9 ⟨rfl, hb9⟩
  go_wp2_with fail
  go_ret
  exact ⟨rfl, B2.out.trans (hb9.mono B2.out.size)⟩
 have t2 : decide ((newM x).2 = 0) = true := decide_eq_true hE
 obtain ⟨hg1, hg2⟩ := HG.out hE (by omega)
 have hnw := HNW.out hE
 have e9 : (if (newM x).2 = 0 then (recTo (newM x).1 ops).2 else []) = (recTo (newM x).1 ops).2 := if_pos hE
 simp only [t2]
 rw [e9] at HL ⊢
 have hrl : (recTo (newM x).1 ops).2.length ≤ 100 := by have := recTo_len (newM x).1 ops; omega
 clear hE t2 HG HNW e9
 generalize (recTo (newM x).1 ops).2 = l at *
 have HG1 := Lib.hid hg1
 have HG2 := Lib.hid hg2
 have HNW := Lib.hid hnw
 clear hg1 hg2 hnw
 obtain ⟨a0, -, a1, -, a2, -, a3, -, z0⟩ := K2.out.x4
 go_wp2_with fail
 refine (CC.out l L lc _ B2.out HL.out.sl).mono ?_
 rintro e w3 ⟨A3, c3, rfl, _, hb⟩
 rw [HG1.out]
 have B3 := Lib.hid (B2.out.trans (hb.mono B2.out.size))
 have K3 := Lib.hid (K2.out.later hb)
 have HL3 := Lib.hid (HL.out.up hb)
 clear hb a0 a1 a2 a3 z0 K2 B2 CC HL
 obtain ⟨a0, -, a1, -, a2, -, a3, -, z0⟩ := K3.out.x4
 simp only [List.length_nil]
 go_wp2_with fail
 refine (CN.out _ B3.out).mono ?_
 rintro e w4 ⟨F0, rfl, hb, hF⟩
 have B4 := Lib.hid (B3.out.trans (hb.mono B3.out.size))
 obtain ⟨sa, sb, rfl, _, o1, o2⟩ := hF HNW.out
 have HAOK := Lib.hid (new_ok HNW.out)
 have hve : (newA x).1.ve = x := (part_start (x := x) (l := l) (by rw [HG1.out])).2.2.1
 have hnow0 := new_now HNW.out
 have HL4 := Lib.hid (HL3.out.up hb)
 have HK4 := Lib.hid (AuKeep.new (w := w3) (V := V) (vc := vc) (s := (newA x).1) (by rw [hve]; exact HV.out.1.up B3.out) hb o1 o2 (by rw [hve]; exact HV.out.2) (by rw [hnow0]; simp [Bd]))
 have he0 := HNW.out
 have hlo4 := hb.size
 clear hb hF o1 o2 hve hnow0 a0 a1 a2 a3 z0 K3 HL3 CN
 obtain ⟨lo, hlo⟩ : ∃ lo, w3.heap.size = lo := ⟨_, rfl⟩
 have hwlo : w.heap.size ≤ lo := by have := B3.out.size; omega
 rw [hlo] at HK4 hlo4
 rw [he0]
 clear he0 HNW HV hlo HG1
 generalize ownF V vc sa sb (newA x).1 = F at HK4 ⊢
 generalize (newA x).1 = s0 at *
 have AV := Lib.hid (show auV F s0 = .agg (auCells F s0).toArray from rfl)
 have S7A := Lib.hid (show (Tryz.prog.info? 67).map (·.size) = some (auCells F s0).toArray.size by kernel_rfl)
 have O7 := Lib.hid (show (auCells F s0).toArray.all (·.oneCell') = true by simp [auCells, Value.oneCell'])
 have L7 := Lib.hid (show (auCells F s0).toArray.size = 7 by rfl)
 rw [AV.out]
 go_upto_region 8 with (refine wpList_store_row rfl 67 (.tmp 9) (.tmp 41) rfl w4.heap.size (auCells F s0).toArray rfl rfl 67 _ (BoxN.new _ _ _) S7A.out L7.out.symm O7.out ?_)
 obtain ⟨g, hg⟩ : ∃ g, w4.heap.size = g := ⟨_, rfl⟩
 rw [hg]
 have hbn : BoxN (w4.alloc (.cells #[.int .i64 0, .int .i64 0, .int .i64 0, .slice none 0 0, .int .i64 0, .slice none 0 0, .slice none 0 0] 67)) g 67 #[.int .i64 0, .int .i64 0, .int .i64 0, .slice none 0 0, .int .i64 0, .slice none 0 0, .slice none 0 0] := hg ▸ BoxN.new w4 67 #[.int .i64 0, .int .i64 0, .int .i64 0, .slice none 0 0, .int .i64 0, .slice none 0 0, .slice none 0 0]
 have hrow := grownBy_setRow hbn (auCells F s0).toArray
 refine at_world (fun X => Below w4.heap.size w4 X ∧ BoxN X g 67 (auCells F s0).toArray) ⟨(ba w4 (.cells #[.int .i64 0, .int .i64 0, .int .i64 0, .slice none 0 0, .int .i64 0, .slice none 0 0, .slice none 0 0] 67)).grown hrow.1 (by simp) (fun k hk => by injection hk with hk; omega), hrow.2⟩ fun w5 hw5 => ?_
 have B5 := Lib.hid (B4.out.trans (hw5.1.mono B4.out.size))
 have HK5 := Lib.hid (HK4.out.up (LooseU.of hw5.1))
 have K5 := Lib.hid hw5.2
 have HL5 := Lib.hid (HL4.out.up hw5.1)
 have hlg : lo ≤ g := by omega
 have hcl := HL4.out.sl.cap
 clear hbn hrow hw5 HK4 HL4 B4 S7A O7 L7 AV hlo4 hg
 go_wp2_with fail
 go_loopw [11] (fun iv wr => ∃ (i : Nat) (Fi : Frm), i ≤ l.length ∧ iv = .int .i64 (i : Int) ∧ Hid (Below w.heap.size w wr) ∧ Hid (BoxN wr g 67 (auCells Fi (runA s0 (l.take i))).toArray) ∧ Hid (AuKeep lo wr Fi (runA s0 (l.take i))) ∧ Hid (Own stR 73 w.heap.size wr (.slice L l.length lc) l)) (fun iv _ => l.length - (intOf iv).toNat)
 case atStart => exact ⟨0, F, Nat.zero_le _, rfl, B5, K5, HK5, HL5⟩
 case round =>
  obtain ⟨i, Fi, hi, rfl, HB, HS, HK, HL⟩ := hrel
  rename World => wq
  clear B5 K5 HK5 HL5
  by_cases hlt : i < l.length
  case neg =>
   obtain rfl : i = l.length := by omega
   have t0 : decide ((l.length : Int) < (l.length : Int)) = false := by simp
   go_wp2_with fail
   refine (awake_any _).mono ?_
   rintro e w9 ⟨rfl, hb9⟩
   go_wp2_with fail
   go_ret
   exact ⟨rfl, HB.out.trans (hb9.mono HB.out.size)⟩
  have t0 : decide ((i : Int) < (l.length : Int)) = true := decide_eq_true (by omega)
  have hi0 : (0 : Int) ≤ (i : Int) := by omega
  have hi1 : (i : Int) < (l.length : Int) := by omega
  obtain ⟨bl, off, sts, rfl, hbl, ⟨hst, hoo, hrr⟩, hat⟩ := HL.out.sl.at_ hlt
  have HAT := Lib.hid (show wq.rangeAt bl (off + i * 21) sts from hat)
  have hAi := runA_ok HAOK.out (l.take i)
  have hg2 := HG2.out i hlt
  have HNX := Lib.hid (runA_succ s0 hlt)
  have CT := Lib.hid (fun W (hb : Below wq.heap.size wq W) => auStep_any (HK.out.is.up hb) hoo hrr)
  unfold StepPost at CT
  rw [show stepA (runA s0 (l.take i)) l[i].1 l[i].2 = readA (runA s0 (l.take i)) l[i].1 l[i].2 by rw [stepA, if_neg (by simp [(good_iff _).2 hAi])], hg2.1, hg2.2, show stV l[i].1 l[i].2 = .agg sts.toArray by rw [hst]; rfl] at CT
  have hAn := read_ok (s := runA s0 (l.take i)) (op := l[i].1) (rp := l[i].2) hAi
  have CGo := Lib.hid ((good_iff _).2 hAn)
  have S2 := Lib.hid (show (Tryz.prog.info? 73).map (·.size) = some sts.length by rw [hst]; kernel_rfl)
  clear hat hst hoo hrr hAi hg2 hAn
  generalize (readA (runA s0 (l.take i)) l[i].1 l[i].2).2.2 = sn at *
  generalize runA s0 (l.take i) = si at *
  have S7 := Lib.hid (show (Tryz.prog.info? 67).map (·.size) = some (auCells Fi si).length by kernel_rfl)
  rw [show auV Fi si = .agg (auCells Fi si).toArray from rfl] at CT
  obtain ⟨ms, hms⟩ : ∃ ms : List Value, ms = auCells Fi si := ⟨_, rfl⟩
  have LM := Lib.hid (show ms.toArray.size = 7 by rw [hms]; rfl)
  rw [← hms] at CT S7 HS
  clear hms
  go_upto_region 13 with fail
  go_cut [12, 13, 14] from 54 to 81 (fun v12 v13 v14 W => ∃ b12 F', v12 = .pointer (some ⟨b12, 0, none⟩) ∧ v13 = .int .i64 0 ∧ v14 = .int .i64 0 ∧ Below wq.heap.size wq W ∧ AuKeep lo W F' sn ∧ BoxN W b12 67 (auCells F' sn).toArray ∧ wq.heap.size ≤ b12)
  case first => as_aux_lemma =>
   have hloq : lo ≤ wq.heap.size := by have := HS.out.lt; omega
   refine wp_region_held (S := fun X => Below wq.heap.size wq X) (by kernel_rfl) ?_
   have HS0 : Below wq.heap.size wq wq.drew := bdd (Below.refl _ _)
   refine wpAnyH_take (i := 0) rfl (by decide +kernel) (by decide +kernel) (by decide +kernel) (fun _ _ _ h => h) (yieldsIf_load_mid rfl 67 (.tmp 9) rfl (g) (0) rfl (ms) _ (fun X hX => (HS.out.later hX).range2) Tryz.underlying67 rfl (S7.out)) HS0 ?_
   refine wpAnyH_take (i := 1) (v := .slice (some ⟨bl, off, none⟩) l.length lc) rfl (by decide +kernel) (by decide +kernel) (by decide +kernel) (fun _ _ _ h => h) (.inl ⟨rfl, fun W hS => by go_simp⟩) HS0 ?_
   refine wpAnyH_take (i := 2) (v := .int .i64 (i : Int)) rfl (by decide +kernel) (by decide +kernel) (by decide +kernel) (fun _ _ _ h => h) (.inl ⟨rfl, fun W hS => by go_simp⟩) HS0 ?_
   refine wpAnyH_take (i := 3) (v := .pointer (some ⟨bl, off + i * 21, none⟩)) rfl (by decide +kernel) (by decide +kernel) (by decide +kernel) (fun _ _ _ h => h) (.inl ⟨rfl, fun W hS => by go_simp⟩) HS0 ?_
   refine wpAnyH_take (i := 4) rfl (by decide +kernel) (by decide +kernel) (by decide +kernel) (fun _ _ _ h => h) (yieldsIf_load_mid rfl 73 (.tmp 64) rfl (bl) (off + i * 21) rfl (sts) _ (fun X hX => range_later hX HAT.out) Tryz.underlying73 rfl (S2.out)) HS0 ?_
   refine wpAnyH_all (rs := [5, 10]) (by kernel_rfl) (by simp) fun j hj => ?_
   simp only [List.mem_cons, List.not_mem_nil, or_false] at hj
   rcases hj with rfl | rfl
   ·refine heldOp rfl fun K hK => ?_
    go_wp2_with fail
    refine (CT.out wq.drew HS0).mono ?_
    rintro e y ⟨F', rfl, hi9, hb, how⟩
    have HF := Lib.hid (show AuKeep lo y F' sn from (HK.out.up (LooseU.of HS0)).step hb how hi9)
    clear hi9 how
    have V9 := Lib.hid (show auV F' sn = .agg (auCells F' sn).toArray from rfl)
    rw [V9.out]
    obtain ⟨hs, hhs⟩ : ∃ hs : List Value, hs = auCells F' sn := ⟨_, rfl⟩
    rw [← hhs]
    have HHS := Lib.hid hhs
    have S9A := Lib.hid (show (Tryz.prog.info? 67).map (·.size) = some hs.toArray.size by rw [hhs]; kernel_rfl)
    have L9 := Lib.hid (show hs.toArray.size = 7 by rw [hhs]; rfl)
    have O9 := Lib.hid (show hs.toArray.all (·.oneCell') = true by rw [hhs]; simp [auCells, Value.oneCell'])
    clear hhs V9
    go_wp2_with fail
    refine at_world (fun X => (Below wq.heap.size wq X) ∧ (AuKeep lo X F' sn)) ⟨HS0.trans (hb.mono HS0.size), HF.out⟩ fun x1 hx1 => ?_
    have S1 := Lib.hid (hx1.1)
    have KK1 := Lib.hid (hx1.2)
    clear hx1
    clear hb HF
    refine hK.out _ _ ⟨S1.out, ?_⟩
    clear hK K
    refine wpAnyH_take (i := 6) (v := .tuple #[.agg hs.toArray, .int .i64 0, .int .i64 0]) rfl (by decide +kernel) (by decide +kernel) (by decide +kernel) (fun _ _ _ h => h) (.inl ⟨rfl, fun W hS => by go_simp⟩) S1.out ?_
    refine wpAnyH_take (i := 7) (v := .agg hs.toArray) rfl (by decide +kernel) (by decide +kernel) (by decide +kernel) (fun _ _ _ h => h) (.inl ⟨rfl, fun W hS => by go_simp⟩) S1.out ?_
    refine wpAnyH_take (i := 8) (v := .int .i64 0) rfl (by decide +kernel) (by decide +kernel) (by decide +kernel) (fun _ _ _ h => h) (.inl ⟨rfl, fun W hS => by go_simp⟩) S1.out ?_
    refine wpAnyH_take (i := 9) (v := .int .i64 0) rfl (by decide +kernel) (by decide +kernel) (by decide +kernel) (fun _ _ _ h => h) (.inl ⟨rfl, fun W hS => by go_simp⟩) S1.out ?_
    refine wpAnyH_all (rs := [10]) (by kernel_rfl) (by simp) fun j hj => ?_
    obtain rfl : j = 10 := by simpa using hj
    clear hj
    refine heldOp rfl fun K hK => ?_
    go_wp2_with fail
    obtain ⟨b12, hq12⟩ : ∃ q, x1.heap.size = q := ⟨_, rfl⟩
    try rw [hq12]
    refine at_world (fun X => (Below wq.heap.size wq X) ∧ (AuKeep lo X F' sn) ∧ (BoxN X b12 67 #[.int .i64 0, .int .i64 0, .int .i64 0, .slice none 0 0, .int .i64 0, .slice none 0 0, .slice none 0 0] ∧ wq.heap.size ≤ b12)) ⟨S1.out.trans ((ba x1 (.cells #[.int .i64 0, .int .i64 0, .int .i64 0, .slice none 0 0, .int .i64 0, .slice none 0 0, .slice none 0 0] 67)).mono S1.out.size), KK1.out.up (LooseU.of (ba x1 (.cells #[.int .i64 0, .int .i64 0, .int .i64 0, .slice none 0 0, .int .i64 0, .slice none 0 0, .slice none 0 0] 67))), ⟨(by rw [← hq12]; exact BoxN.new _ _ _), (by rw [← hq12]; exact S1.out.size)⟩⟩ fun x2 hx2 => ?_
    have S2 := Lib.hid (hx2.1)
    have KK2 := Lib.hid (hx2.2.1)
    have B122 := Lib.hid (hx2.2.2)
    clear hx2
    clear hq12
    clear S1 KK1
    refine hK.out _ _ ⟨S2.out, ?_⟩
    clear hK K
    refine wpAnyH_all (rs := [11]) (by kernel_rfl) (by simp) fun j hj => ?_
    obtain rfl : j = 11 := by simpa using hj
    clear hj
    refine heldOp rfl fun K hK => ?_
    go_wp2_with (refine wpList_store_row rfl 67 (.tmp 12) (.tmp 67) rfl b12 hs.toArray rfl rfl 67 _ B122.out.1 S9A.out L9.out.symm O9.out ?_)
    have hrow := grownBy_setRow B122.out.1 (hs.toArray)
    have htag := Tag.of_box B122.out.1
    have hle := B122.out.2
    refine at_world (fun X => (Below wq.heap.size wq X) ∧ (AuKeep lo X F' sn) ∧ (BoxN X b12 67 hs.toArray ∧ wq.heap.size ≤ b12)) ⟨S2.out.grown hrow.1 S2.out.size (fun k hk => by injection hk with hk; omega), KK2.out.up (LooseU.grown hrow.1 htag (by omega) (by decide) (by decide)), ⟨hrow.2, hle⟩⟩ fun x3 hx3 => ?_
    have S3 := Lib.hid (hx3.1)
    have KK3 := Lib.hid (hx3.2.1)
    have B123 := Lib.hid (hx3.2.2)
    clear hx3
    clear hrow htag hle
    clear S2 KK2 B122
    refine hK.out _ _ ⟨S3.out, ?_⟩
    clear hK K
    refine wpAnyH_take (i := 12) (v := .int .i64 0) rfl (by decide +kernel) (by decide +kernel) (by decide +kernel) (fun _ _ _ h => h) (.inl ⟨rfl, fun W hS => by go_simp⟩) S3.out ?_
    refine wpAnyH_take (i := 13) (v := .int .i64 0) rfl (by decide +kernel) (by decide +kernel) (by decide +kernel) (fun _ _ _ h => h) (.inl ⟨rfl, fun W hS => by go_simp⟩) S3.out ?_
    refine wpAnyH_done (by kernel_rfl) ?_ _
    go_wp2_with fail
    go_meet
    exact ⟨_, F', rfl, rfl, rfl, S3.out, KK3.out, by rw [← HHS.out]; exact B123.out.1, B123.out.2⟩
   ·refine heldOp rfl fun K hK => ?_
    go_wp2_with fail
    obtain ⟨b12, hq12⟩ : ∃ q, wq.heap.size = q := ⟨_, rfl⟩
    try rw [hq12]
    refine at_world (fun X => (Below wq.heap.size wq X) ∧ (BoxN X b12 67 #[.int .i64 0, .int .i64 0, .int .i64 0, .slice none 0 0, .int .i64 0, .slice none 0 0, .slice none 0 0] ∧ wq.heap.size ≤ b12)) ⟨HS0.trans ((ba wq.drew (.cells #[.int .i64 0, .int .i64 0, .int .i64 0, .slice none 0 0, .int .i64 0, .slice none 0 0, .slice none 0 0] 67)).mono HS0.size), ⟨(by rw [← hq12]; exact BoxN.new _ _ _), (by rw [← hq12]; exact HS0.size)⟩⟩ fun x1 hx1 => ?_
    have S1 := Lib.hid (hx1.1)
    have B121 := Lib.hid (hx1.2)
    clear hx1
    clear hq12
    refine hK.out _ _ ⟨S1.out, ?_⟩
    clear hK K
    refine wpAnyH_all (rs := [5]) (by kernel_rfl) (by simp) fun j hj => ?_
    obtain rfl : j = 5 := by simpa using hj
    clear hj
    refine heldOp rfl fun K hK => ?_
    go_wp2_with fail
    refine (CT.out x1 S1.out).mono ?_
    rintro e y ⟨F', rfl, hi9, hb, how⟩
    have HF := Lib.hid (show AuKeep lo y F' sn from (HK.out.up (LooseU.of S1.out)).step hb how hi9)
    clear hi9 how
    have V9 := Lib.hid (show auV F' sn = .agg (auCells F' sn).toArray from rfl)
    rw [V9.out]
    obtain ⟨hs, hhs⟩ : ∃ hs : List Value, hs = auCells F' sn := ⟨_, rfl⟩
    rw [← hhs]
    have HHS := Lib.hid hhs
    have S9A := Lib.hid (show (Tryz.prog.info? 67).map (·.size) = some hs.toArray.size by rw [hhs]; kernel_rfl)
    have L9 := Lib.hid (show hs.toArray.size = 7 by rw [hhs]; rfl)
    have O9 := Lib.hid (show hs.toArray.all (·.oneCell') = true by rw [hhs]; simp [auCells, Value.oneCell'])
    clear hhs V9
    go_wp2_with fail
    refine at_world (fun X => (Below wq.heap.size wq X) ∧ (AuKeep lo X F' sn) ∧ (BoxN X b12 67 #[.int .i64 0, .int .i64 0, .int .i64 0, .slice none 0 0, .int .i64 0, .slice none 0 0, .slice none 0 0] ∧ wq.heap.size ≤ b12)) ⟨S1.out.trans (hb.mono S1.out.size), HF.out, ⟨B121.out.1.later hb, B121.out.2⟩⟩ fun x2 hx2 => ?_
    have S2 := Lib.hid (hx2.1)
    have KK2 := Lib.hid (hx2.2.1)
    have B122 := Lib.hid (hx2.2.2)
    clear hx2
    clear hb HF
    clear S1 B121
    refine hK.out _ _ ⟨S2.out, ?_⟩
    clear hK K
    refine wpAnyH_take (i := 6) (v := .tuple #[.agg hs.toArray, .int .i64 0, .int .i64 0]) rfl (by decide +kernel) (by decide +kernel) (by decide +kernel) (fun _ _ _ h => h) (.inl ⟨rfl, fun W hS => by go_simp⟩) S2.out ?_
    refine wpAnyH_take (i := 7) (v := .agg hs.toArray) rfl (by decide +kernel) (by decide +kernel) (by decide +kernel) (fun _ _ _ h => h) (.inl ⟨rfl, fun W hS => by go_simp⟩) S2.out ?_
    refine wpAnyH_take (i := 8) (v := .int .i64 0) rfl (by decide +kernel) (by decide +kernel) (by decide +kernel) (fun _ _ _ h => h) (.inl ⟨rfl, fun W hS => by go_simp⟩) S2.out ?_
    refine wpAnyH_take (i := 9) (v := .int .i64 0) rfl (by decide +kernel) (by decide +kernel) (by decide +kernel) (fun _ _ _ h => h) (.inl ⟨rfl, fun W hS => by go_simp⟩) S2.out ?_
    refine wpAnyH_all (rs := [11]) (by kernel_rfl) (by simp) fun j hj => ?_
    obtain rfl : j = 11 := by simpa using hj
    clear hj
    refine heldOp rfl fun K hK => ?_
    go_wp2_with (refine wpList_store_row rfl 67 (.tmp 12) (.tmp 67) rfl b12 hs.toArray rfl rfl 67 _ B122.out.1 S9A.out L9.out.symm O9.out ?_)
    have hrow := grownBy_setRow B122.out.1 (hs.toArray)
    have htag := Tag.of_box B122.out.1
    have hle := B122.out.2
    refine at_world (fun X => (Below wq.heap.size wq X) ∧ (AuKeep lo X F' sn) ∧ (BoxN X b12 67 hs.toArray ∧ wq.heap.size ≤ b12)) ⟨S2.out.grown hrow.1 S2.out.size (fun k hk => by injection hk with hk; omega), KK2.out.up (LooseU.grown hrow.1 htag (by omega) (by decide) (by decide)), ⟨hrow.2, hle⟩⟩ fun x3 hx3 => ?_
    have S3 := Lib.hid (hx3.1)
    have KK3 := Lib.hid (hx3.2.1)
    have B123 := Lib.hid (hx3.2.2)
    clear hx3
    clear hrow htag hle
    clear S2 KK2 B122
    refine hK.out _ _ ⟨S3.out, ?_⟩
    clear hK K
    refine wpAnyH_take (i := 12) (v := .int .i64 0) rfl (by decide +kernel) (by decide +kernel) (by decide +kernel) (fun _ _ _ h => h) (.inl ⟨rfl, fun W hS => by go_simp⟩) S3.out ?_
    refine wpAnyH_take (i := 13) (v := .int .i64 0) rfl (by decide +kernel) (by decide +kernel) (by decide +kernel) (fun _ _ _ h => h) (.inl ⟨rfl, fun W hS => by go_simp⟩) S3.out ?_
    refine wpAnyH_done (by kernel_rfl) ?_ _
    go_wp2_with fail
    go_meet
    exact ⟨_, F', rfl, rfl, rfl, S3.out, KK3.out, by rw [← HHS.out]; exact B123.out.1, B123.out.2⟩
  case rest =>
  obtain ⟨b12, F', rfl, rfl, rfl, hb, hkn, h12, hl12⟩ := hcut
  rename World => wc
  have B5 := Lib.hid (HB.out.trans (hb.mono HB.out.size))
  have Z9 := Lib.hid (HS.out.later hb)
  have ZL := Lib.hid (HL.out.up hb)
  have ZK := Lib.hid hkn
  have Z12 := Lib.hid h12
  have n12 : g < b12 := by have := HS.out.lt; omega
  have S7N := Lib.hid (show (Tryz.prog.info? 67).map (·.size) = some (auCells F' sn).length by kernel_rfl)
  have S7A := Lib.hid (show (Tryz.prog.info? 67).map (·.size) = some (auCells F' sn).toArray.size by kernel_rfl)
  have O7 := Lib.hid (show (auCells F' sn).toArray.all (·.oneCell') = true by simp [auCells, Value.oneCell'])
  have CG := good_any (W := wc) hkn.is
  rw [CGo.out, show auV F' sn = .agg (auCells F' sn).toArray from rfl] at CG
  have CG2 := Lib.hid CG
  obtain ⟨hs, hhs⟩ : ∃ hs : List Value, hs = auCells F' sn := ⟨_, rfl⟩
  rw [← hhs] at CG2 S7N S7A O7 Z12
  have HHS := Lib.hid hhs
  have L9 := Lib.hid (show hs.toArray.size = 7 by rw [hhs]; rfl)
  clear hb hkn h12 HAT CT HS HL HK HB CG hhs CGo
  go_wp2_with (refine wpList_load_midg rfl 67 (.tmp 12) rfl b12 0 rfl hs _ Z12.out.range2 Tryz.underlying67 rfl S7N.out ?_)
  refine CG2.out.mono ?_
  rintro e w6 ⟨rfl, hb⟩
  have B6 := Lib.hid (B5.out.trans (hb.mono B5.out.size))
  have Y9 := Lib.hid (Z9.out.later hb)
  have YL := Lib.hid (ZL.out.up hb)
  have YK := Lib.hid (ZK.out.up (LooseU.of hb))
  have Y12 := Lib.hid (Z12.out.later hb)
  clear hb Z9 ZL ZK Z12 B5 CG2
  go_wp2_with (first | refine wpList_load_mid rfl 67 (.tmp 12) rfl b12 0 rfl hs _ Y12.out.range2 Tryz.underlying67 rfl S7N.out ?_ | refine wpList_store_row rfl 67 (.tmp 9) (.tmp 81) rfl g hs.toArray rfl rfl 67 _ Y9.out S7A.out (LM.out.trans L9.out.symm) O7.out ?_)
  have hrow := grownBy_setRow Y9.out hs.toArray
  exact ⟨⟨i + 1, F', by omega, by go_num, Lib.hid (B6.out.grown hrow.1 B6.out.size (fun k hk => by injection hk with hk; omega)), by rw [HNX.out, ← HHS.out]; exact Lib.hid hrow.2, by rw [HNX.out]; exact Lib.hid (YK.out.up (LooseU.grown hrow.1 (Tag.of_box Y9.out) (by omega) (by decide) (by decide))), Lib.hid (YL.out.kept_box hrow.1 Y9.out (by decide) stR_flat)⟩, by simp [intOf]; omega⟩
end Go.Proofs.YtlckmjiioohcmaaGreatDoor
