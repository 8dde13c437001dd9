/-
  Walks of groundlingref15.Places, Check, Seats. Conditions: as each theorem says.
-/
import Derived.Test.YtcomfhigbjkoeaaDoorRvB
namespace Go.Proofs.YtcomfhigbjkoeaaDoor
open Go.RowKit

/-- A place, in memory. -/
def plR : Rep Pl where
  size := 3
  is _ cs p := cs = [.int .i64 p.sec, .int .i64 p.row, .int .i64 p.seat] ∧ Bd p.sec ∧ Bd p.row ∧ Bd p.seat
  len h := by rw [h.1]; rfl
  one h := by rw [h.1]; simp [Value.oneCell']
  up _ h := h
theorem plR_flat : plR.flat := fun _ _ _ _ h => h
theorem infoPl : (Tryd.prog.info? 93).map (fun i => (i.zero, i.size, i.bytes)) = some (some (.agg #[.int .i64 0, .int .i64 0, .int .i64 0]), 3, 24) := by kernel_rfl

/-- The places of a row, of the rows of a section, of all. -/
def plRow (i k : Nat) (m : Int) : List Pl := (List.range m.toNat).map fun n : Nat => ⟨(i : Int), (k : Int), (n : Int)⟩
def plSec (i : Nat) : List Int → Nat → List Pl
  | [], _ => []
  | r :: l, k => plRow i k r ++ plSec i l (k + 1)
def plAll : List Sec → Nat → List Pl
  | [], _ => []
  | s :: l, i => plSec i s.rows 0 ++ plAll l (i + 1)

theorem plSec_len (i : Nat) : ∀ (l : List Int) (k : Nat), (∀ n, n ∈ l → 1 ≤ n ∧ n ≤ 64) → ((plSec i l k).length : Int) = sum l
  | [], _, _ => rfl
  | r :: l, k, h => by
    have h1 := h r (by simp)
    have h2 := plSec_len i l (k + 1) fun n hn => h n (by simp [hn])
    simp only [plSec, plRow, List.length_append, List.length_map, List.length_range, sum]
    omega
theorem plAll_len : ∀ (l : List Sec) (i : Nat), (∀ s, s ∈ l → ∀ n, n ∈ s.rows → 1 ≤ n ∧ n ≤ 64) → ((plAll l i).length : Int) = sum (l.flatMap (·.rows))
  | [], _, _ => rfl
  | s :: l, i, h => by
    have h1 := plSec_len i s.rows 0 (h s (by simp))
    have h2 := plAll_len l (i + 1) fun t ht => h t (by simp [ht])
    simp only [plAll, List.length_append, List.flatMap_cons, sum_append]
    omega
theorem secsOk_rows {secs : List Sec} (hok : SecsOk secs) : ∀ s, s ∈ secs → s.rows.length ≤ 16 ∧ ∀ n, n ∈ s.rows → 1 ≤ n ∧ n ≤ 64 := by
  intro s hs
  obtain ⟨j, hj, rfl⟩ := List.getElem_of_mem hs
  have := secE_ok (hok.2 j hj)
  exact ⟨this.1, this.2.1⟩
theorem plAll_bd {secs : List Sec} (hok : SecsOk secs) : ((plAll secs 0).length : Int) = sum (secs.flatMap (·.rows)) ∧ (plAll secs 0).length ≤ 8192 := by
  have h1 := plAll_len secs 0 fun s hs => (secsOk_rows hok s hs).2
  have h2 := upTo_bd (xs := secs) (k := secs.length) (Nat.le_refl _) fun j hj _ => hok.2 j hj
  rw [upTo, List.take_length] at h2
  have := hok.1
  exact ⟨h1, by omega⟩

theorem plRow_drop (i k : Nat) (m : Int) (n : Nat) (h : (n : Int) < m) : (plRow i k m).drop n = ⟨(i : Int), (k : Int), (n : Int)⟩ :: (plRow i k m).drop (n + 1) := by
  have hn : n < (plRow i k m).length := by simp [plRow]; omega
  rw [List.drop_eq_getElem_cons hn]
  simp [plRow]

def PlI (w wr : World) (q : Nat) (cs : List Value) (v : Value) (acc rest tot : List Pl) : Prop := Below w.heap.size w wr ∧ Cells wr q cs ∧ Own plR 93 (q + 1) wr v acc ∧ acc ++ rest = tot
theorem PlI.re {w wr : World} {q : Nat} {cs : List Value} {v : Value} {acc rest rest' tot : List Pl} (h : PlI w wr q cs v acc rest tot) (e : rest = rest') : PlI w wr q cs v acc rest' tot := e ▸ h

theorem sl_pl (w : World) (g : Nat) (p : Pl) (t : TypeId) (hg : g = w.heap.size) (h1 : Bd p.sec) (h2 : Bd p.row) (h3 : Bd p.seat) : Sl plR (w.alloc (.cells #[.int .i64 p.sec, .int .i64 p.row, .int .i64 p.seat] t)) (.slice (some ⟨g, 0, none⟩) 1 1) [p] := by
  subst hg
  exact Own.sl (Own.lit (R := plR) (e := t) (n := 1) (B := 0) (xs := [p]) (cells := [.int .i64 p.sec, .int .i64 p.row, .int .i64 p.seat]) rfl (by omega) (Rep.many_one ⟨rfl, h1, h2, h3⟩) rfl (by omega))

def PlacesPost (w : World) (secs : List Sec) (e : Ending) (w' : World) : Prop := ∃ A c, e = .returned (.slice A (plAll secs 0).length c) ∧ Own plR 93 w.heap.size w' (.slice A (plAll secs 0).length c) (plAll secs 0) ∧ Below w.heap.size w w'

set_option maxHeartbeats 4000000 in
theorem rplaces_any {w : World} {V : Option Addr} {vc : Nat} {sh ttl ses : Int} {secs : List Sec} (hv : Sl secR w (.slice V secs.length vc) secs) (hok : SecsOk secs) :
    Calls Tryd.prog 26 #[.agg #[.int .i64 sh, .int .i64 ttl, .int .i64 ses, .slice V secs.length vc]] w (PlacesPost w secs) := by
  have HV := Lib.hid hv
  have hlen := hok.1
  have HOK := Lib.hid hok
  have hbd := plAll_bd hok
  obtain ⟨tot, htot⟩ : ∃ tot, plAll secs 0 = tot := ⟨_, rfl⟩
  unfold PlacesPost
  rw [htot] at hbd ⊢
  have HT := Lib.hid htot
  have hbd2 := hbd.2
  clear hv hok htot hbd
  go_enter Tryd.func26, Tryd.ntmps26
  go_wp2_with fail
  obtain ⟨q, hq⟩ : ∃ q, w.heap.size = q := ⟨_, rfl⟩
  obtain ⟨cs, hcs⟩ : ∃ cs : List Value, cs = [.int .i64 sh, .int .i64 ttl, .int .i64 ses, .slice V secs.length vc] := ⟨_, rfl⟩
  have I0 := Lib.hid (show PlI w (w.alloc (.cells #[.int .i64 sh, .int .i64 ttl, .int .i64 ses, .slice V secs.length vc] 24)) q cs (.slice none 0 0) [] (plAll (secs.drop 0) 0) tot from
    ⟨ba _ _, hcs ▸ Cells.newQ _ _ _ _ hq.symm, Own.nil _ _ _ _, by rw [List.drop_zero]; exact HT.out⟩)
  rw [hq]
  have HQ := Lib.hid hq
  have HCS := Lib.hid hcs
  clear hq hcs
  go_loopw [3, 4] (fun v iv wr => ∃ i : Nat, i ≤ secs.length ∧ iv = .int .i64 i ∧ ∃ acc A c, v = .slice A acc.length c ∧ Hid (PlI w wr q cs v acc (plAll (secs.drop i) i) tot)) (fun _ iv _ => secs.length - (intOf iv).toNat)
  case atStart => exact ⟨0, by omega, rfl, [], none, 0, rfl, I0⟩
  case round =>
    obtain ⟨i, hi, rfl, acc, A, c, rfl, I⟩ := hrel
    have k0 := I.out.2.1
    rw [HCS.out] at k0
    have c3 := k0.c 3 _ rfl
    have y0 := k0.lt
    clear k0
    by_cases hlt : i < secs.length
    · obtain ⟨b, off, A', c', hA, hbl, e0, e1, e2, hin, _, _⟩ := (HV.out.up I.out.1).atS hlt
      subst hA
      have hi0 : (0 : Int) ≤ (i : Int) := by omega
      have hi1 : (i : Int) < (secs.length : Int) := by omega
      have hdr := Lib.hid (show plAll (secs.drop i) i = plSec i (secs[i].rows.drop 0) 0 ++ plAll (secs.drop (i + 1)) (i + 1) by rw [List.drop_eq_getElem_cons hlt, List.drop_zero]; rfl)
      have hrw := Lib.hid (secsOk_rows HOK.out _ (List.getElem_mem hlt))
      have hrl := hrw.out.1
      have hcap := hin.capB
      generalize hrows : secs[i].rows = rows at e1 hin hdr hrw hrl hcap
      have HR := Lib.hid hrows
      clear hrows
      have I1 := Lib.hid (I.out.re hdr.out)
      clear hin e0 e2 hdr
      go_wp2_with fail
      clear c3 e1 I
      go_loopw [3, 5] (fun v kv wi => ∃ k : Nat, k ≤ rows.length ∧ kv = .int .i64 k ∧ ∃ acc A c, v = .slice A acc.length c ∧ Hid (PlI w wi q cs v acc (plSec i (rows.drop k) k ++ plAll (secs.drop (i + 1)) (i + 1)) tot)) (fun _ kv _ => rows.length - (intOf kv).toNat)
      case atStart => exact ⟨0, by omega, rfl, acc, A, c, rfl, I1⟩
      case round =>
        obtain ⟨k, hk, rfl, acc, A, c, rfl, I⟩ := hrel
        have k0 := I.out.2.1
        rw [HCS.out] at k0
        have c3 := k0.c 3 _ rfl
        have y0 := k0.lt
        clear k0
        obtain ⟨b3, off3, A3, c3', hA3, hbl3, _, e1, _, hin, _, _⟩ := (HV.out.up I.out.1).atS hlt
        injection hA3 with hA3
        injection hA3 with hA3 hA4
        subst hA3 hA4
        rw [HR.out] at e1 hin
        by_cases hkt : k < rows.length
        · obtain ⟨b2, o2, rfl, hb2, e3, _⟩ := hin.atI hkt
          have hk0 : (0 : Int) ≤ (k : Int) := by omega
          have hk1 : (k : Int) < (rows.length : Int) := by omega
          have hm := hrw.out.2 _ (List.getElem_mem hkt)
          have hdr := Lib.hid (show plSec i (rows.drop k) k ++ plAll (secs.drop (i + 1)) (i + 1) = (plRow i k rows[k]).drop 0 ++ (plSec i (rows.drop (k + 1)) (k + 1) ++ plAll (secs.drop (i + 1)) (i + 1)) by
            rw [List.drop_eq_getElem_cons hkt, List.drop_zero, ← List.append_assoc]; rfl)
          generalize hmm : rows[k] = m at e3 hm hdr
          have HM := Lib.hid hmm
          clear hmm hin
          have I1 := Lib.hid (I.out.re hdr.out)
          clear hdr
          go_wp2_with fail
          clear c3 e1 e3 I
          go_loopw [3, 6] (fun v nv wj => ∃ n : Nat, (n : Int) ≤ m ∧ nv = .int .i64 n ∧ ∃ acc A c, v = .slice A acc.length c ∧ Hid (PlI w wj q cs v acc ((plRow i k m).drop n ++ (plSec i (rows.drop (k + 1)) (k + 1) ++ plAll (secs.drop (i + 1)) (i + 1))) tot)) (fun _ nv _ => m.toNat - (intOf nv).toNat)
          case atStart => exact ⟨0, by omega, rfl, acc, A, c, rfl, I1⟩
          case round =>
            obtain ⟨n, hn, rfl, acc, A, c, rfl, I⟩ := hrel
            have k0 := I.out.2.1
            rw [HCS.out] at k0
            have c3 := k0.c 3 _ rfl
            have y0 := k0.lt
            clear k0
            obtain ⟨b3, off3, A3, c3', hA3, hbl3, _, e1, _, hin, _, _⟩ := (HV.out.up I.out.1).atS hlt
            injection hA3 with hA3
            injection hA3 with hA3 hA4
            subst hA3 hA4
            rw [HR.out] at e1 hin
            obtain ⟨b4, o4, hA4, hb4, e3, _⟩ := hin.atI hkt
            subst hA4
            rw [HM.out] at e3
            clear hin
            by_cases hnt : (n : Int) < m
            · have hI := I.out
              rw [plRow_drop i k m n hnt] at hI
              have hlen := congrArg List.length hI.2.2.2
              simp only [List.length_append, List.length_cons] at hlen
              have HI := Lib.hid hI
              have hO := Lib.hid hI.2.2.1
              clear hI I
              go_wp2_with (at_builtin; refine wpList_append_sl _ rfl (.tmp 38) (.tmp 43) 79 rfl plR (q + 1) 93 _ 24 Tryd.underlying79 infoPl rfl (by decide) _ acc rfl (hO.out.up (ba _ _)) _ [⟨(i : Int), (k : Int), (n : Int)⟩] rfl (sl_pl _ _ ⟨(i : Int), (k : Int), (n : Int)⟩ _ rfl (by unfold Bd; simp; omega) (by unfold Bd; simp; omega) (by unfold Bd; simp; omega)) (by simp; omega) (by decide) (by simp; omega) (fun w' _ cs y h => plR_flat _ _ _ _ h) ?_; intro v1 w5 hown1 hg1 hat1)
              obtain ⟨A1, c1, rfl, _, _, ho1⟩ := hown1.form
              have HI1 := Lib.hid (show PlI w w5 q cs (.slice A1 (acc ++ [(⟨(i : Int), (k : Int), (n : Int)⟩ : Pl)]).length c1) (acc ++ [⟨(i : Int), (k : Int), (n : Int)⟩]) ((plRow i k m).drop (n + 1) ++ (plSec i (rows.drop (k + 1)) (k + 1) ++ plAll (secs.drop (i + 1)) (i + 1))) tot from by
                have hqq := HQ.out
                refine ⟨(bal HI.out.1).grown hg1 (by have := HI.out.1.size; simp; omega) (fun j hj => ?_), (HI.out.2.1.alloc _).grown hg1 (fun e => ?_), ho1, ?_⟩
                · have := (hO.out.lt j hj).1; omega
                · have := (hO.out.lt q e).1; omega
                · rw [List.append_assoc]; exact HI.out.2.2.2)
              clear hown1 hg1 hat1 ho1
              go_roundw
              case rel => exact ⟨n + 1, by omega, by go_num, acc ++ [⟨(i : Int), (k : Int), (n : Int)⟩], A1, c1, rfl, HI1⟩
              case measure => simp [intOf]; omega
            · have I2 := Lib.hid (I.out.re (show (plRow i k m).drop n ++ (plSec i (rows.drop (k + 1)) (k + 1) ++ plAll (secs.drop (i + 1)) (i + 1)) = plSec i (rows.drop (k + 1)) (k + 1) ++ plAll (secs.drop (i + 1)) (i + 1) by
                rw [List.drop_of_length_le (by simp [plRow]; omega)]; rfl))
              clear I
              go_wp2_with fail
              go_roundw
              case rel => exact ⟨k + 1, by omega, by go_num, acc, A, c, rfl, I2⟩
              case measure => simp [intOf]; omega
        · have I2 := Lib.hid (I.out.re (show plSec i (rows.drop k) k ++ plAll (secs.drop (i + 1)) (i + 1) = plAll (secs.drop (i + 1)) (i + 1) by
            rw [List.drop_of_length_le (by omega)]; rfl))
          clear I
          go_wp2_with fail
          go_roundw
          case rel => exact ⟨i + 1, by omega, by go_num, acc, A, c, rfl, I2⟩
          case measure => simp [intOf]; omega
    · obtain rfl : i = secs.length := by omega
      have hI := I.out
      rw [List.drop_length] at hI
      have hacc : acc = tot := by have := hI.2.2.2; simpa [plAll] using this
      subst hacc
      have HI := Lib.hid hI
      clear hI I
      go_wp2_with fail
      go_ret
      exact ⟨_, _, rfl, (HI.out.2.2.1).mono (by have := HQ.out; omega), HI.out.1⟩

set_option maxHeartbeats 4000000 in
theorem rcheck_any {w : World} {V : Option Addr} {vc : Nat} {x : Ve} (hv : Sl secR w (.slice V x.secs.length vc) x.secs) :
    Calls Tryd.prog 25 #[.agg #[.int .i64 x.shards, .int .i64 x.ttl, .int .i64 x.session, .slice V x.secs.length vc]] w fun e w' => e = .returned (.tuple #[.int .i64 (checkV x).1, .int .i64 (checkV x).2]) ∧ Below w.heap.size w w' := by
  obtain ⟨shards, ttl, session, secs⟩ := x
  dsimp only at hv ⊢
  have hcap := hv.capB
  have HV := Lib.hid hv
  have hE := Lib.hid (show checkV ⟨shards, ttl, session, secs⟩ = if (outB shards 1 16 || outB ttl 1 1000000000 || outB session 1 1000000000) = true then (-1, 7) else if secs.length = 0 then (-1, 6) else if 8 < secs.length then (-1, 3) else match secsE [] secs 0 with | some (i, e) => ((i : Int), e) | none => if 4096 < sum (secs.flatMap (·.rows)) then (-1, 3) else (0, 0) from rfl)
  generalize checkV ⟨shards, ttl, session, secs⟩ = E at hE ⊢
  clear hv
  cases hb1 : outB shards 1 16 with
  | true =>
    obtain rfl : E = (-1, 7) := by rw [hE.out, hb1]; rfl
    have W1 := Lib.hid (fun W => within_out hb1 W)
    clear hb1
    go_enter Tryd.func25, Tryd.ntmps25
    go_wp2_with fail
    refine (W1.out _).mono ?_
    rintro e w' ⟨rfl, rfl⟩
    go_wp2_with fail
    go_ret2
    exact ⟨rfl, ba _ _⟩
  | false =>
  have W1 := Lib.hid (fun W => within_in hb1 W)
  cases hb2 : outB ttl 1 1000000000 with
  | true =>
    obtain rfl : E = (-1, 7) := by rw [hE.out, hb1, hb2]; rfl
    have W2 := Lib.hid (fun W => within_out hb2 W)
    clear hb1 hb2
    go_enter Tryd.func25, Tryd.ntmps25
    go_wp2_with fail
    refine (W1.out _).mono ?_
    rintro e w' ⟨rfl, rfl⟩
    go_wp2_with fail
    refine (W2.out _).mono ?_
    rintro e w' ⟨rfl, rfl⟩
    go_wp2_with fail
    go_ret2
    exact ⟨rfl, ba _ _⟩
  | false =>
  have W2 := Lib.hid (fun W => within_in hb2 W)
  cases hb3 : outB session 1 1000000000 with
  | true =>
    obtain rfl : E = (-1, 7) := by rw [hE.out, hb1, hb2, hb3]; rfl
    have W3 := Lib.hid (fun W => within_out hb3 W)
    clear hb1 hb2 hb3
    go_enter Tryd.func25, Tryd.ntmps25
    go_wp2_with fail
    refine (W1.out _).mono ?_
    rintro e w' ⟨rfl, rfl⟩
    go_wp2_with fail
    refine (W2.out _).mono ?_
    rintro e w' ⟨rfl, rfl⟩
    go_wp2_with fail
    refine (W3.out _).mono ?_
    rintro e w' ⟨rfl, rfl⟩
    go_wp2_with fail
    go_ret2
    exact ⟨rfl, ba _ _⟩
  | false =>
  have W3 := Lib.hid (fun W => within_in hb3 W)
  replace hE := Lib.hid (show E = if secs.length = 0 then (-1, 6) else if 8 < secs.length then (-1, 3) else match secsE [] secs 0 with | some (i, e) => ((i : Int), e) | none => if 4096 < sum (secs.flatMap (·.rows)) then (-1, 3) else (0, 0) by rw [hE.out, hb1, hb2, hb3]; rfl)
  clear hb1 hb2 hb3
  obtain ⟨cs, hcs⟩ : ∃ cs : List Value, cs = [.int .i64 shards, .int .i64 ttl, .int .i64 session, .slice V secs.length vc] := ⟨_, rfl⟩
  have HCS := Lib.hid hcs
  have K0 := Lib.hid (show Cells (w.alloc (.cells #[.int .i64 shards, .int .i64 ttl, .int .i64 session, .slice V secs.length vc] 24)) w.heap.size cs from hcs ▸ Cells.new _ _ _)
  have HB0 := Lib.hid (ba w (.cells #[.int .i64 shards, .int .i64 ttl, .int .i64 session, .slice V secs.length vc] 24))
  clear hcs
  go_enter Tryd.func25, Tryd.ntmps25
  go_wp2_with fail
  refine (W1.out _).mono ?_
  rintro e w' ⟨rfl, rfl⟩
  go_wp2_with fail
  refine (W2.out _).mono ?_
  rintro e w' ⟨rfl, rfl⟩
  go_wp2_with fail
  refine (W3.out _).mono ?_
  rintro e w' ⟨rfl, rfl⟩
  clear W1 W2 W3
  refine at_world (fun W => Below w.heap.size w W ∧ Cells W w.heap.size cs) ⟨HB0.out, K0.out⟩ fun w1 ⟨hb, k0⟩ => ?_
  have HB := Lib.hid hb
  have K1 := Lib.hid k0
  rw [HCS.out] at k0
  have c0 := k0.c 0 _ rfl
  have c1 := k0.c 1 _ rfl
  have c2 := k0.c 2 _ rfl
  have c3 := k0.c 3 _ rfl
  have y0 := k0.lt
  clear hb k0 HB0 K0
  by_cases g1 : secs.length = 0
  · have g1' : ((secs.length : Int) == 0) = true := by simp [g1]
    obtain rfl : E = (-1, 6) := by rw [hE.out, if_pos g1]
    clear g1
    go_wp2_with fail
    go_ret2
    exact ⟨rfl, HB.out⟩
  have g1' : ((secs.length : Int) == 0) = false := by simpa using g1
  by_cases g2 : 8 < secs.length
  · have g2' : decide (8 < (secs.length : Int)) = true := by simp; omega
    obtain rfl : E = (-1, 3) := by rw [hE.out, if_neg g1, if_pos g2]
    clear g1 g2
    go_wp2_with fail
    go_ret2
    exact ⟨rfl, HB.out⟩
  have g2' : decide (8 < (secs.length : Int)) = false := by simp; omega
  replace hE := Lib.hid (show E = match secsE [] secs 0 with | some (i, e) => ((i : Int), e) | none => if 4096 < sum (secs.flatMap (·.rows)) then (-1, 3) else (0, 0) by rw [hE.out, if_neg g1, if_neg g2])
  have hlen : secs.length ≤ 8 := by omega
  clear g1 g2
  go_wp2_with fail
  clear c0 c1 c2 c3 y0 g1' g2'
  go_loopw [4] (fun v wr => ∃ k : Nat, k ≤ secs.length ∧ v = .int .i64 k ∧ Hid (Below w1.heap.size w1 wr) ∧ Hid (∀ j, (hj : j < secs.length) → j < k → secE secs[j] (secs.take j) = 0)) (fun v _ => secs.length - (intOf v).toNat)
  case atStart => exact ⟨0, by omega, rfl, Lib.hid (Below.refl _ _), Lib.hid fun j _ h => by omega⟩
  case round =>
    obtain ⟨k, hk, rfl, D, hno⟩ := hrel
    have D' := Lib.hid (HB.out.trans (D.out.mono HB.out.size))
    have k0 := K1.out.later D.out
    rw [HCS.out] at k0
    have c0 := k0.c 0 _ rfl
    have c1 := k0.c 1 _ rfl
    have c2 := k0.c 2 _ rfl
    have c3 := k0.c 3 _ rfl
    have y0 := k0.lt
    clear k0
    by_cases hlt : k < secs.length
    · have hk0 : (0 : Int) ≤ (k : Int) := by omega
      have hk1 : (k : Int) < (secs.length : Int) := by omega
      have CS := Lib.hid (rsection_any (sh := shards) (ttl := ttl) (ses := session) (HV.out.up D'.out) hlt)
      have hre := Lib.hid (show secE secs[k] (secs.take k) ≠ 0 → E = ((k : Int), secE secs[k] (secs.take k)) from fun h => by
        rw [hE.out, secsE_some hlt (fun j hj => by simpa using hno.out j (by omega) hj) (by simpa using h)]; simp)
      have hnx := Lib.hid (show secE secs[k] (secs.take k) = 0 → ∀ j, (hj : j < secs.length) → j < k + 1 → secE secs[j] (secs.take j) = 0 from fun h j hj hj2 => by
        by_cases e : j = k
        · subst e; exact h
        · exact hno.out j hj (by omega))
      generalize secE secs[k] (secs.take k) = ee at CS hre hnx
      go_wp2_with fail
      refine CS.out.mono ?_
      rintro e w2 ⟨rfl, hb2⟩
      have D2 := Lib.hid (D.out.trans (hb2.mono D.out.size))
      clear hb2 CS
      by_cases he : ee = 0
      · subst he
        clear c0 c1 c2 c3 y0
        go_wp2_with fail
        go_roundw
        case rel => exact ⟨k + 1, by omega, by go_num, D2, Lib.hid (hnx.out trivial)⟩
        case measure => simp [intOf]; omega
      · have t0 : (ee != 0) = true := by simpa using he
        obtain rfl := hre.out he
        go_wp2_with fail
        go_ret2
        exact ⟨rfl, HB.out.trans (D2.out.mono HB.out.size)⟩
    · obtain rfl : k = secs.length := by omega
      have hsok : SecsOk secs := ⟨hlen, fun j hj => hno.out j hj hj⟩
      have hEn := Lib.hid (show E = if 4096 < sum (secs.flatMap (·.rows)) then (-1, 3) else (0, 0) by
        rw [hE.out, secsE_none fun j hj => by simpa using hno.out j hj hj])
      have CP := Lib.hid (rplaces_any (sh := shards) (ttl := ttl) (ses := session) (HV.out.up D'.out) hsok)
      have hl := (plAll_bd hsok).1
      have hl2 := (plAll_bd hsok).2
      unfold PlacesPost at CP
      generalize plAll secs 0 = pls at CP hl hl2
      clear hsok hno
      go_wp2_with fail
      refine CP.out.mono ?_
      rintro e w2 ⟨A2, d2, rfl, _, hb2⟩
      have D2 := Lib.hid (D'.out.trans (hb2.mono D'.out.size))
      clear hb2
      by_cases h4 : 4096 < sum (secs.flatMap (·.rows))
      · obtain rfl : E = (-1, 3) := by rw [hEn.out, if_pos h4]
        have t2 : decide (4096 < (pls.length : Int)) = true := decide_eq_true (by omega)
        clear h4 hl
        go_wp2_with fail
        go_ret2
        exact ⟨rfl, D2.out⟩
      · obtain rfl : E = (0, 0) := by rw [hEn.out, if_neg h4]
        have t2 : decide (4096 < (pls.length : Int)) = false := decide_eq_false (by omega)
        clear h4 hl
        go_wp2_with fail
        go_ret2
        exact ⟨rfl, D2.out⟩

set_option maxHeartbeats 2000000 in
theorem rseats_any {w : World} {V : Option Addr} {vc : Nat} {x : Ve} (hv : Sl secR w (.slice V x.secs.length vc) x.secs) :
    Calls Tryd.prog 10 #[.agg #[.int .i64 x.shards, .int .i64 x.ttl, .int .i64 x.session, .slice V x.secs.length vc]] w fun e w' => e = .returned (.tuple #[.int .i64 (seatsV x).1, .int .i64 (seatsV x).2]) ∧ Below w.heap.size w w' := by
  have C1 := Lib.hid (fun W (hb : Below w.heap.size w W) => rcheck_any (x := x) (hv.up hb))
  have hE := Lib.hid (show seatsV x = if (checkV x).2 ≠ 0 then (0, (checkV x).2) else (sum (allRows x), 0) from rfl)
  have hok := Lib.hid (fun h => (checkV_ok (x := x) h).1)
  generalize checkV x = K at C1 hE hok
  obtain ⟨kn, ke⟩ := K
  simp only at C1 hE hok
  have HV := Lib.hid hv
  obtain ⟨cs, hcs⟩ : ∃ cs : List Value, cs = [.int .i64 x.shards, .int .i64 x.ttl, .int .i64 x.session, .slice V x.secs.length vc] := ⟨_, rfl⟩
  have HCS := Lib.hid hcs
  have K0 := Lib.hid (show Cells (w.alloc (.cells #[.int .i64 x.shards, .int .i64 x.ttl, .int .i64 x.session, .slice V x.secs.length vc] 24)) w.heap.size cs from hcs ▸ Cells.new _ _ _)
  clear hcs hv
  go_enter Tryd.func10, Tryd.ntmps10
  go_wp2_with fail
  refine (C1.out _ (ba _ _)).mono ?_
  rintro e w1 ⟨rfl, hb1⟩
  have k0 := K0.out.later hb1
  rw [HCS.out] at k0
  have c0 := k0.c 0 _ rfl
  have c1 := k0.c 1 _ rfl
  have c2 := k0.c 2 _ rfl
  have c3 := k0.c 3 _ rfl
  have y0 := k0.lt
  have HB := Lib.hid ((ba w _).trans (hb1.mono (ba w _).size))
  clear hb1 k0 C1 K0
  by_cases he : ke = 0
  case neg =>
    have t0 : (ke != 0) = true := by simpa using he
    have hT := Lib.hid (show seatsV x = (0, ke) by rw [hE.out, if_pos he])
    go_wp2_with fail
    go_ret2
    exact ⟨by rw [hT.out]; rfl, HB.out⟩
  subst he
  have hsok := hok.out rfl
  have CP := Lib.hid (rplaces_any (sh := x.shards) (ttl := x.ttl) (ses := x.session) (HV.out.up HB.out) hsok)
  have hl := (plAll_bd hsok).1
  have hT := Lib.hid (show seatsV x = (((plAll x.secs 0).length : Int), 0) by rw [hE.out, if_neg (by simp), hl]; rfl)
  unfold PlacesPost at CP
  generalize plAll x.secs 0 = pls at CP hT
  clear hsok hl hE hok
  go_wp2_with fail
  refine CP.out.mono ?_
  rintro e w2 ⟨A2, d2, rfl, _, hb2⟩
  have D2 := Lib.hid (HB.out.trans (hb2.mono HB.out.size))
  clear hb2
  go_wp2_with fail
  go_ret2
  exact ⟨by rw [hT.out]; rfl, D2.out⟩
end Go.Proofs.YtcomfhigbjkoeaaDoor
