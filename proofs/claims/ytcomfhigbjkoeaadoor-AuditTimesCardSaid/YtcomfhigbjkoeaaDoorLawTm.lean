/-
  Walk of the statement's function AuditTimes. Conditions: as the theorem says.
-/
import Derived.Test.YtcomfhigbjkoeaaDoorPlTm
import Derived.Test.YtcomfhigbjkoeaaDoorRvC
import Derived.Test.YtcomfhigbjkoeaaDoorAwA
namespace Go.Proofs.YtcomfhigbjkoeaaDoor
open Go.RowKit

theorem addT_le {a b : Int} (ha : 0 ≤ a) (hb : 0 ≤ b) : a ≤ 9223372036854775807 → 0 ≤ (addT a b).1 ∧ (addT a b).1 ≤ 9223372036854775807 ∧ a ≤ (addT a b).1 := by
  intro h
  unfold addT
  rw [if_neg (by omega)]
  split <;> simp only <;> omega

theorem timesL_ok {now t d i owner other : Int} (h1 : Bd now) (h2 : Bd t) (h3 : Bd d) (h4 : 0 ≤ i ∧ i ≤ 4294967295) (h5 : U32 owner) (h6 : U32 other) : ∀ p, p ∈ timesL now t d i owner other → OpOk p.1 ∧ RpOk p.2 := by
  intro p hp
  have h4' : Bd i := ⟨by omega, by omega⟩
  have h4'' : U32 i := h4
  have z : Bd 0 := by simp [Bd]
  have m : Bd 9223372036854775807 := by simp [Bd]
  have u : U32 0 := by simp [U32]
  have tk : TkOk noTk := by simp [TkOk, noTk, U32, U64]
  have rp : RpOk noRp := ⟨z, z, z, z, tk, z⟩
  simp only [timesL, List.mem_cons, List.not_mem_nil, or_false] at hp
  rcases hp with rfl | rfl | rfl | rfl
  · exact ⟨⟨by simp [Bd], u, z, z, z, z, u, tk, h1⟩, rp⟩
  · exact ⟨⟨by simp [Bd], h5, m, h4', z, z, u, tk, z⟩, z, z, z, h3, tk, z⟩
  · exact ⟨⟨by simp [Bd], u, z, z, z, z, u, tk, h2⟩, rp⟩
  · exact ⟨⟨by simp [Bd], h6, m, h4', z, z, u, tk, z⟩, z, z, z, z, ⟨h4'', h6, by simp [U64], by simp [U64]⟩, z⟩

set_option maxRecDepth 100000 in
set_option maxHeartbeats 16000000 in
theorem lawTimes_any {w : World} {V : Option Addr} {vc : Nat} {x : Ve} (hv : Sl secR w (.slice V x.secs.length vc) x.secs) (h1 : Bd x.shards) (h2 : Bd x.ttl) (h3 : Bd x.session) {seat : Int} (hs : 0 ≤ seat ∧ seat ≤ 65535) {now more owner other : Int} (b1 : Bd now) (b2 : Bd more) (b3 : U32 owner) (b4 : U32 other) :
    Calls Tryd.prog 4 #[.agg #[.int .i64 x.shards, .int .i64 x.ttl, .int .i64 x.session, .slice V x.secs.length vc], .int .u16 seat, .agg #[.int .i64 now, .int .i64 more, .int .u32 owner, .int .u32 other]] w fun e w' => e = .returned (.bool true) ∧ Below w.heap.size w w' := by
  have CS := Lib.hid (fun W (hb : Below w.heap.size w W) => rseats_any (x := x) (hv.up hb))
  have CF := Lib.hid (fun W (hb : Below w.heap.size w W) => far_any (hv.up hb))
  have CA := Lib.hid (fun a W (ha : Bd a) (h : Bd now) => rAdd_any now a W h ha)
  have HV := Lib.hid hv
  have HBD := Lib.hid (And.intro h1 (And.intro h2 h3))
  have HSE := Lib.hid (show ∀ n, seatsV x = (n, 0) → 1 ≤ n ∧ n ≤ 4096 from fun n h => ⟨(seats_pos h).1, (seats_pos h).2.1⟩)
  have HTC := Lib.hid (fun n t d i (hs : seatsV x = (n, 0)) => times_check (x := x) (n := n) (now := now) (t := t) (d := d) (i := i) (owner := owner) (other := other) hs)
  unfold FarPost at CF
  have htl := Lib.hid (show ∀ n, seatsV x = (n, 0) → 0 ≤ x.ttl from fun n h => (seats_pos h).2.2.1)
  generalize hS : seatsV x = S at CS HSE HTC htl
  obtain ⟨n, e⟩ := S
  have HS := Lib.hid hS
  simp only at CS
  clear hv h1 h2 h3 hS
  obtain ⟨cs, hcs⟩ : ∃ cs : List Value, cs = [.int .i64 x.shards, .int .i64 x.ttl, .int .i64 x.session, .slice V x.secs.length vc] := ⟨_, rfl⟩
  have HCS := Lib.hid hcs
  obtain ⟨q, hq⟩ : ∃ q, w.heap.size = q := ⟨_, rfl⟩
  have K0 := Lib.hid (show Cells ((w.alloc (.cells #[.int .i64 x.shards, .int .i64 x.ttl, .int .i64 x.session, .slice V x.secs.length vc] 24)).alloc (.cells #[.int .i64 now, .int .i64 more, .int .u32 owner, .int .u32 other] 45)) q cs ∧
      Cells ((w.alloc (.cells #[.int .i64 x.shards, .int .i64 x.ttl, .int .i64 x.session, .slice V x.secs.length vc] 24)).alloc (.cells #[.int .i64 now, .int .i64 more, .int .u32 owner, .int .u32 other] 45)) (q + 1) [.int .i64 now, .int .i64 more, .int .u32 owner, .int .u32 other] from
    ⟨by rw [hcs]; exact (Cells.new' _ _ _ _ hq.symm).alloc _, Cells.new' _ _ _ _ (by simp [hq])⟩)
  clear hcs
  go_enter Tryd.func4, Tryd.ntmps4
  go_wp2_with fail
  refine (CS.out _ (bal (ba _ _))).mono ?_
  rintro e1 w1 ⟨rfl, hb1⟩
  have KV1 := Lib.hid (K0.out.1.later hb1)
  have KL1 := Lib.hid (K0.out.2.later hb1)
  have HB1 := Lib.hid ((bal (ba w _)).trans (hb1.mono (bal (ba w _)).size))
  clear hb1 K0 CS
  have HQ := Lib.hid hq
  clear hq
  have kv := KV1.out
  rw [HCS.out] at kv
  have c0 := kv.c 0 _ rfl
  have c1 := kv.c 1 _ rfl
  have c2 := kv.c 2 _ rfl
  have c3 := kv.c 3 _ rfl
  have y0 := kv.lt
  clear kv
  go_wp2_with fail
  refine (CF.out _ HB1.out).mono ?_
  rintro e1 w2 ⟨fb, rfl, hb2⟩
  have KV2 := Lib.hid (KV1.out.later hb2)
  have KL2 := Lib.hid (KL1.out.later hb2)
  have HB2 := Lib.hid (HB1.out.trans (hb2.mono HB1.out.size))
  clear hb2 c0 c1 c2 c3 y0 KV1 KL1 HB1 CF
  have kv := KV2.out
  rw [HCS.out] at kv
  have c1 := kv.c 1 _ rfl
  have y0 := kv.lt
  have l0 := KL2.out.c 0 _ rfl
  have l1 := KL2.out.c 1 _ rfl
  have l2 := KL2.out.c 2 _ rfl
  have l3 := KL2.out.c 3 _ rfl
  have y1 := KL2.out.lt
  clear kv
  have CW := Lib.hid (fun W => awake_any W)
  cases fb with
  | true => as_aux_lemma =>
    go_wp2_with fail
    refine (CW.out _).mono ?_
    rintro e w3 ⟨rfl, hb⟩
    have HB3 := Lib.hid (HB2.out.trans (hb.mono HB2.out.size))
    clear hb
    go_wp2_with fail
    go_ret
    exact ⟨rfl, HB3.out⟩
  | false =>
  by_cases he : e = 0
  case neg => as_aux_lemma =>
    have t0 : (e != 0) = true := by simpa using he
    go_wp2_with fail
    refine (CW.out _).mono ?_
    rintro e w3 ⟨rfl, hb⟩
    have HB3 := Lib.hid (HB2.out.trans (hb.mono HB2.out.size))
    clear hb
    go_wp2_with fail
    go_ret
    exact ⟨rfl, HB3.out⟩
  subst he
  by_cases hnow : now < 0
  case pos => as_aux_lemma =>
    have t0 : decide (now < 0) = true := decide_eq_true hnow
    go_wp2_with fail
    refine (CW.out _).mono ?_
    rintro e w3 ⟨rfl, hb⟩
    have HB3 := Lib.hid (HB2.out.trans (hb.mono HB2.out.size))
    clear hb
    go_wp2_with fail
    go_ret
    exact ⟨rfl, HB3.out⟩
  have t1 : decide (now < 0) = false := decide_eq_false hnow
  by_cases hmore : more < 0
  case pos => as_aux_lemma =>
    have t0 : decide (more < 0) = true := decide_eq_true hmore
    go_wp2_with fail
    refine (CW.out _).mono ?_
    rintro e w3 ⟨rfl, hb⟩
    have HB3 := Lib.hid (HB2.out.trans (hb.mono HB2.out.size))
    clear hb
    go_wp2_with fail
    go_ret
    exact ⟨rfl, HB3.out⟩
  have t2 : decide (more < 0) = false := decide_eq_false hmore
  by_cases how : owner = other
  case pos => as_aux_lemma =>
    have t0 : (owner == other) = true := by simpa using how
    go_wp2_with fail
    refine (CW.out _).mono ?_
    rintro e w3 ⟨rfl, hb⟩
    have HB3 := Lib.hid (HB2.out.trans (hb.mono HB2.out.size))
    clear hb
    go_wp2_with fail
    go_ret
    exact ⟨rfl, HB3.out⟩
  have t3 : (owner == other) = false := by simpa using how
  have hn := HSE.out n rfl
  have htt := htl.out n rfl
  obtain ⟨i, hi⟩ : ∃ i, seat.tmod n = i := ⟨_, rfl⟩
  have hib : 0 ≤ i ∧ i < n := by rw [← hi]; exact ⟨Int.tmod_nonneg _ hs.1, Int.tmod_lt_of_pos _ (by omega)⟩
  have hn0 : n ≠ 0 := by omega
  have hs1 := hs.1
  have hs2 := hs.2
  have hnow0 : 0 ≤ now := by omega
  have hmore0 : 0 ≤ more := by omega
  have hd := addT_le hnow0 htt b1.2
  have hdt := addT_le hnow0 hmore0 b1.2
  obtain ⟨d, hdd⟩ : ∃ d, (addT now x.ttl).1 = d := ⟨_, rfl⟩
  obtain ⟨t, htd⟩ : ∃ t, (addT now more).1 = t := ⟨_, rfl⟩
  have C1 := Lib.hid (fun W => CA.out x.ttl W HBD.out.2.1 b1)
  have C2 := Lib.hid (fun W => CA.out more W b2 b1)
  rw [hdd] at C1 hd
  rw [htd] at C2 hdt
  generalize (addT now x.ttl).2 = d2 at C1
  generalize (addT now more).2 = t2' at C2
  have HTD := Lib.hid (show ∀ ht : t < 9223372036854775807, checkA x (timesL now t d i owner other) = (if d ≤ t then [] else [(3, 9)], 0) from fun ht => HTC.out n t d i rfl hib.1 hib.2 hnow0 hdt.2.2 ht hdd.symm how)
  clear CA hdd htd how
  go_wp2_with fail
  refine (C1.out _).mono ?_
  rintro e1 w3 ⟨rfl, hb3⟩
  have KV3 := Lib.hid (KV2.out.later hb3)
  have KL3 := Lib.hid (KL2.out.later hb3)
  have HB3 := Lib.hid (HB2.out.trans (hb3.mono HB2.out.size))
  clear hb3 c1 y0 l0 l1 l2 l3 y1 KV2 KL2 HB2
  have l0 := KL3.out.c 0 _ rfl
  have l1 := KL3.out.c 1 _ rfl
  have y1 := KL3.out.lt
  go_wp2_with fail
  refine (C2.out _).mono ?_
  rintro e1 w4 ⟨rfl, hb4⟩
  have KV4 := Lib.hid (KV3.out.later hb4)
  have KL4 := Lib.hid (KL3.out.later hb4)
  have HB4 := Lib.hid (HB3.out.trans (hb4.mono HB3.out.size))
  clear hb4 l0 l1 y1 KV3 KL3 HB3 C1 C2
  have kv := KV4.out
  rw [HCS.out] at kv
  have c0 := kv.c 0 _ rfl
  have c1 := kv.c 1 _ rfl
  have c2 := kv.c 2 _ rfl
  have c3 := kv.c 3 _ rfl
  have y0 := kv.lt
  clear kv
  have l0 := KL4.out.c 0 _ rfl
  have l2 := KL4.out.c 2 _ rfl
  have l3 := KL4.out.c 3 _ rfl
  have y1 := KL4.out.lt
  by_cases hmax : t = 9223372036854775807
  case pos => as_aux_lemma =>
    have t0 : (t == 9223372036854775807) = true := by simpa using hmax
    go_wp2_with fail
    refine (CW.out _).mono ?_
    rintro e w5 ⟨rfl, hb⟩
    have HB5 := Lib.hid (HB4.out.trans (hb.mono HB4.out.size))
    clear hb
    go_wp2_with fail
    go_ret
    exact ⟨rfl, HB5.out⟩
  have t0 : (t == 9223372036854775807) = false := by simpa using hmax
  have hchk := Lib.hid (HTD.out (by omega))
  have hLok := Lib.hid (timesL_ok (now := now) (t := t) (d := d) (i := i) (owner := owner) (other := other) b1 ⟨by omega, by omega⟩ ⟨by omega, by omega⟩ ⟨by omega, by omega⟩ b3 b4)
  have hw32 : IntKind.u32.wrap i = i := by simp [IntKind.wrap, IntKind.signed, IntKind.bits]; omega
  clear HTD hmax
  have q1 : 0 ≤ i := hib.1
  have q2 : i < n := hib.2
  go_wp2_with fail
  have hsl : Sl stR (w4.alloc (.cells ((timesL now t d i owner other).flatMap stCells).toArray 41)) (.slice (some ⟨w4.heap.size, 0, none⟩) (timesL now t d i owner other).length 4) (timesL now t d i owner other) := (Cells.new' w4 ((timesL now t d i owner other).flatMap stCells) 41 _ rfl).sl (many_steps hLok.out) rfl (by show (4 : Nat) ≤ 1000000; omega)
  refine at_call (fun W => Below w.heap.size w W ∧ Sl stR W (.slice (some ⟨w4.heap.size, 0, none⟩) (timesL now t d i owner other).length 4) (timesL now t d i owner other)) ⟨bal HB4.out, hsl⟩ fun w5 ⟨hb5, hsl5⟩ => ?_
  have CC := auCheck_any (HV.out.up hb5) HBD.out.1 HBD.out.2.1 HBD.out.2.2 hsl5
  have HB5 := Lib.hid hb5
  clear hsl hsl5 hb5 c0 c1 c2 c3 y0 l0 l2 l3 y1
  refine CC.mono ?_
  clear CC
  unfold CheckPost
  rw [hchk.out]
  rintro e1 w6 ⟨A, c, rfl, hown, hb6⟩
  have HB6 := Lib.hid (HB5.out.trans (hb6.mono HB5.out.size))
  have HO := Lib.hid hown.sl
  clear hown hb6
  by_cases hdt2 : d ≤ t
  · as_aux_lemma =>
    have t1 : decide (d ≤ t) = true := decide_eq_true hdt2
    rw [if_pos hdt2]
    go_wp2_with fail
    refine (CW.out _).mono ?_
    rintro e w7 ⟨rfl, hb⟩
    have HB7 := Lib.hid (HB6.out.trans (hb.mono HB6.out.size))
    clear hb
    go_wp2_with fail
    go_ret
    exact ⟨rfl, HB7.out⟩
  · as_aux_lemma =>
    have t1 : decide (d ≤ t) = false := decide_eq_false hdt2
    have HO' := HO.out
    rw [if_neg hdt2] at HO' ⊢
    go_wp2_with fail
    refine (sameF_any (xs := [(3, 9)]) (ys := [(3, 9)]) (HO'.up (ba _ _)) (sl_two w6 _ (3, 9) _ rfl (by simp [Bd]) (by simp [Bd]))).mono ?_
    rintro e w7 ⟨rfl, hb7⟩
    replace hb7 : Below w6.heap.size w6 w7 := (ba _ _).trans (hb7.mono (by simp))
    have HB7 := Lib.hid (HB6.out.trans (hb7.mono HB6.out.size))
    clear hb7
    rw [show decide ([((3 : Int), (9 : Int))] = [(3, 9)]) = true by decide]
    go_wp2_with fail
    refine (CW.out _).mono ?_
    rintro e w8 ⟨rfl, hb⟩
    have HB8 := Lib.hid (HB7.out.trans (hb.mono HB7.out.size))
    clear hb
    go_wp2_with fail
    go_ret
    exact ⟨rfl, HB8.out⟩
end Go.Proofs.YtcomfhigbjkoeaaDoor
