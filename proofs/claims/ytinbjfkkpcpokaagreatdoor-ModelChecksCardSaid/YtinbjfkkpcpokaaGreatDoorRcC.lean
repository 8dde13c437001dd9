/-
  Walks of groundlingref23.Tickets, Of and of model.Tickets, Of: each pair by one reading. Conditions: as each theorem says.
-/
import Derived.Test.YtinbjfkkpcpokaaGreatDoorRcB
namespace Go.Proofs.YtinbjfkkpcpokaaGreatDoor
open Go.RowKit

/-- A state's box, and a slice of the call's own. -/
def AccSt {α : Type} (R : Rep α) (e : TypeId) (q : Nat) (w W : World) (v : Value) (xs : List α) (ms : Array Value) : Prop :=
  Below w.heap.size w W ∧ BoxN W q 29 ms ∧ Own R e w.heap.size W v xs
theorem AccSt.add {α : Type} {R : Rep α} {e : TypeId} {q : Nat} {w z y : World} {v v' : Value} {xs ys : List α} {ms : Array Value} (h : AccSt R e q w z v xs ms) (hne : 29 ≠ e) {o : Obj} (hg : (z.alloc o).grownBy y v.ownBlock) (ho : Own R e w.heap.size y v' ys) :
    AccSt R e q w y v' ys ms := by
  obtain ⟨h1, h2, h3⟩ := h
  have hb := ba z o
  have h4 := h3.up hb
  exact ⟨(h1.trans (hb.mono h1.size)).grown hg (Nat.le_trans h1.size hb.size) (fun j hj => (h4.lt j hj).1), (h2.later hb).kept_own hg h4 hne, ho⟩
theorem AccSt.up {α : Type} {R : Rep α} {e : TypeId} {q : Nat} {w z y : World} {v : Value} {xs : List α} {ms : Array Value} (h : AccSt R e q w z v xs ms) (hb : Below z.heap.size z y) : AccSt R e q w y v xs ms :=
  ⟨h.1.trans (hb.mono h.1.size), h.2.1.later hb, h.2.2.up hb⟩
theorem ticket_ok {x : Sx} (hx : SxOk x) {i : Nat} (hi : i ≤ 4096) : TkOk (sxTicket x (i : Int)).1 := by
  unfold sxTicket
  split
  · simp [TkOk, noTk, U32, U64]
  · exact ⟨⟨by show (0 : Int) ≤ (i : Int); omega, by show (i : Int) ≤ _; omega⟩, hx.2.1, hx.2.2.2.1, hx.2.2.2.2⟩
set_option maxHeartbeats 4000000 in
set_option maxRecDepth 20000 in
theorem rTickets_any (F : MFrm) (s : Md) (w : World) (hs : IsMd w F s) (hn : s.qs.length ≤ 1000 ∧ ∀ l, l ∈ s.qs → l.length ≤ 1000) :
    Calls Tryz.prog 19 #[mdV F s] w fun e w' => ∃ v, e = .returned (.tuple #[v, .int .i64 (ticksM s).2]) ∧ Own tkR 54 w.heap.size w' v (ticksM s).1 ∧ Below w.heap.size w w' := by
  have C1 := Lib.hid (fun W (hb : Below w.heap.size w W) => rcheck23_any F s W (hs.up hb) hn)
  have HS := Lib.hid hs
  have HOK := Lib.hid (@checkM_ok s)
  have hT := Lib.hid (show ticksM s = if checkM s ≠ 0 then ([], checkM s) else ((selF tickF s.seats 0), 0) from rfl)
  have hcapS := hs.seats.capB
  generalize checkM s = E at C1 HOK hT
  clear hs hn
  have S7 := Lib.hid (show (Tryz.prog.info? 29).map (·.size) = some (mdCells F s).length by kernel_rfl)
  have MVk := Lib.hid (show mdV F s = .agg (mdCells F s).toArray from rfl)
  rw [MVk.out] at C1 ⊢
  obtain ⟨ms, hms⟩ : ∃ ms : List Value, ms = mdCells F s := ⟨_, rfl⟩
  rw [← hms] at C1 S7 ⊢
  have HMS := Lib.hid hms
  clear hms MVk
  generalize ticksM s = M at hT ⊢
  go_enter Tryz.func19, Tryz.ntmps19
  go_upto_region 1 with fail
  obtain ⟨q, hq⟩ : ∃ q, w.heap.size = q := ⟨_, rfl⟩
  rw [hq]
  refine at_world (fun X => Below w.heap.size w X ∧ BoxN X q 29 ms.toArray) ⟨ba _ _, hq ▸ BoxN.new w 29 ms.toArray⟩ fun w0 hw0 => ?_
  have B0 := Lib.hid hw0.1
  have K0 := Lib.hid hw0.2
  clear hw0
  go_wp2_with (refine wpList_load_mid rfl 29 (.tmp 1) rfl q 0 rfl ms _ K0.out.range2 Tryz.underlying29 rfl S7.out ?_)
  refine (C1.out _ B0.out).mono ?_
  rintro e w1 ⟨rfl, hb⟩
  have B1 := Lib.hid (B0.out.trans (hb.mono B0.out.size))
  have K1 := Lib.hid (K0.out.later hb)
  have hwq : w.heap.size = q := hq
  clear hb K0 B0 C1
  by_cases h : E = 0
  case neg =>
    obtain rfl : M = ([], E) := by rw [hT.out, if_pos h]
    have t : (E != 0) = true := by simpa using h
    clear h hT
    go_wp2_with fail
    exact bodyPost_ret (v := .tuple #[.slice none 0 0, .int .i64 E]) (by simp [results, Tryz.results19, go_sem]) rfl ⟨_, rfl, Own.nil _ _ _ _, by rw [← hq]; exact B1.out⟩
  have OK := Lib.hid (HOK.out.1 h)
  obtain rfl : M = ((selF tickF s.seats 0), 0) := by rw [hT.out, if_neg (by simpa using h)]
  subst h
  clear hT HOK
  have HLN := Lib.hid OK.out.len
  have hln := HLN.out
  go_wp2_with fail
  go_loopw [5, 6] (fun ov iv wr => ∃ i : Nat, i ≤ s.seats.length ∧ iv = .int .i64 (i : Int) ∧ Hid (AccSt tkR 54 q w wr ov (selF tickF (s.seats.take i) 0) ms.toArray)) (fun _ iv _ => s.seats.length - (intOf iv).toNat)
  case atStart => exact ⟨0, by omega, rfl, Lib.hid ⟨B1.out, K1.out, Own.nil _ _ _ _⟩⟩
  case round =>
    obtain ⟨i, hi, rfl, HA⟩ := hrel
    rename World => wr
    have m5 := (show BoxN wr q 29 (mdCells F s).toArray from HMS.out ▸ HA.out.2.1).cell 5 (.slice F.A s.seats.length F.ac) rfl
    have zq := HA.out.2.1.lt
    by_cases hlt : i < s.seats.length
    case neg =>
      obtain rfl : i = s.seats.length := by omega
      rw [List.take_length] at HA
      have t0 : decide ((s.seats.length : Int) < (s.seats.length : Int)) = false := by simp
      go_wp2_with fail
      exact bodyPost_ret (v := .tuple #[u5, .int .i64 0]) (by simp [results, Tryz.results19, go_sem]) rfl ⟨_, rfl, by rw [← hq]; exact HA.out.2.2, by rw [← hq]; exact HA.out.1⟩
    have t0 : decide ((i : Int) < (s.seats.length : Int)) = true := decide_eq_true (by omega)
    have hk0 : (0 : Int) ≤ (i : Int) := by omega
    have hk1 : (i : Int) < (s.seats.length : Int) := by omega
    obtain ⟨bS, oS, hA, hbS, d0, d1, d2, d3, d4, hx⟩ := (HS.out.seats.up HA.out.1).atX hlt
    have HN := Lib.hid (selF_succ tickF s.seats hlt)
    have HL := Lib.hid (selF_len (f := tickF) tickF_len (s.seats.take i) 0)
    have hll := HL.out
    rw [List.length_take, Nat.min_eq_left (by omega)] at hll
    rw [hA] at m5
    clear hA HL
    generalize hac : selF tickF (s.seats.take i) 0 = ac at HA HN hll
    clear hac
    have HTO := Lib.hid (ticket_ok hx (i := i) (by omega))
    have CT := Lib.hid (fun W => r16Ticket_any s.seats[i] (i : Int) W)
    have HF := Lib.hid (show tickF s.seats[i] i = if (sxTicket s.seats[i] (i : Int)).2 = 0 then [(sxTicket s.seats[i] (i : Int)).1] else [] from rfl)
    have hW : IntKind.u32.wrap (i : Int) = (i : Int) := IntWalk.u32_in _ (by omega)
    unfold sxV tkV at CT
    generalize sxTicket s.seats[i] (i : Int) = T at CT HF HTO
    obtain ⟨⟨ts, oo, tse, tep⟩, er⟩ := T
    simp only at CT HF HTO
    generalize s.seats[i] = sx at *
    go_wp2_with fail
    refine (CT.out _).mono ?_
    rintro e w4 ⟨rfl, hb4⟩
    have HB := Lib.hid (HA.out.up hb4)
    clear hb4 d0 d1 d2 d3 d4 m5 zq
    go_upto_region 9 with fail
    obtain ⟨qt, hqt⟩ : ∃ qt, w4.heap.size = qt := ⟨_, rfl⟩
    rw [hqt]
    refine at_world (fun X => Below w4.heap.size w4 X ∧ BoxN X qt 54 #[.int .u32 ts, .int .u32 oo, .int .u64 tse, .int .u64 tep]) ⟨ba _ _, hqt ▸ BoxN.new w4 54 _⟩ fun w5 hw5 => ?_
    have HC := Lib.hid (HB.out.up hw5.1)
    have k0 := hw5.2.cell 0 _ rfl
    have k1 := hw5.2.cell 1 _ rfl
    have k2 := hw5.2.cell 2 _ rfl
    have k3 := hw5.2.cell 3 _ rfl
    have zt := hw5.2.lt
    clear hw5 hqt HB
    by_cases he : er = 0
    case neg =>
      have t1 : (er == 0) = false := by simpa using he
      have HE := Lib.hid (HN.out.trans (by rw [HF.out, if_neg he, List.append_nil]))
      clear he HF HN
      go_wp2_with fail
      exact ⟨⟨i + 1, by omega, by go_num, Lib.hid (by rw [HE.out]; exact HC.out)⟩, by simp [intOf]; omega⟩
    have t1 : (er == 0) = true := by simpa using he
    have HE := Lib.hid (HN.out.trans (by rw [HF.out, if_pos he]))
    clear he HF HN
    go_wp2_with (first | (at_builtin; refine wpList_append_sl _ rfl (.tmp 34) (.tmp 36) 36 rfl tkR w.heap.size 54 _ 24 Tryz.underlying36 infoTk rfl (by decide) _ ac rfl ((HC.out).2.2.up (ba _ _)) _ [(⟨ts, oo, tse, tep⟩ : Tk)] rfl (tk_one _ _ _ rfl HTO.out) (by simp; omega) (by decide) (by have := (HC.out).1.size; simp [World.size_alloc]; omega) (fun w' _ cs y h => tkR_flat _ _ _ _ h) ?_; intro v9 w9 hown1 hg1 hat1))
    exact ⟨⟨i + 1, by omega, by go_num, Lib.hid (by rw [HE.out]; exact HC.out.add (by decide) hg1 hown1)⟩, by simp [intOf]; omega⟩

set_option maxHeartbeats 4000000 in
set_option maxRecDepth 20000 in
theorem mTickets_any (F : MFrm) (s : Md) (w : World) (hs : IsMd w F s) (hn : s.qs.length ≤ 1000 ∧ ∀ l, l ∈ s.qs → l.length ≤ 1000) :
    Calls Tryz.prog 18 #[mdV F s] w fun e w' => ∃ v, e = .returned (.tuple #[v, .int .i64 (ticksM s).2]) ∧ Own tkR 54 w.heap.size w' v (ticksM s).1 ∧ Below w.heap.size w w' := by
  have C1 := Lib.hid (fun W (hb : Below w.heap.size w W) => mcheck_any F s W (hs.up hb) hn)
  have HS := Lib.hid hs
  have HOK := Lib.hid (@checkM_ok s)
  have hT := Lib.hid (show ticksM s = if checkM s ≠ 0 then ([], checkM s) else ((selF tickF s.seats 0), 0) from rfl)
  have hcapS := hs.seats.capB
  generalize checkM s = E at C1 HOK hT
  clear hs hn
  have S7 := Lib.hid (show (Tryz.prog.info? 29).map (·.size) = some (mdCells F s).length by kernel_rfl)
  have MVk := Lib.hid (show mdV F s = .agg (mdCells F s).toArray from rfl)
  rw [MVk.out] at C1 ⊢
  obtain ⟨ms, hms⟩ : ∃ ms : List Value, ms = mdCells F s := ⟨_, rfl⟩
  rw [← hms] at C1 S7 ⊢
  have HMS := Lib.hid hms
  clear hms MVk
  generalize ticksM s = M at hT ⊢
  go_enter Tryz.func18, Tryz.ntmps18
  go_upto_region 1 with fail
  obtain ⟨q, hq⟩ : ∃ q, w.heap.size = q := ⟨_, rfl⟩
  rw [hq]
  refine at_world (fun X => Below w.heap.size w X ∧ BoxN X q 29 ms.toArray) ⟨ba _ _, hq ▸ BoxN.new w 29 ms.toArray⟩ fun w0 hw0 => ?_
  have B0 := Lib.hid hw0.1
  have K0 := Lib.hid hw0.2
  clear hw0
  go_wp2_with (refine wpList_load_mid rfl 29 (.tmp 1) rfl q 0 rfl ms _ K0.out.range2 Tryz.underlying29 rfl S7.out ?_)
  refine (C1.out _ B0.out).mono ?_
  rintro e w1 ⟨rfl, hb⟩
  have B1 := Lib.hid (B0.out.trans (hb.mono B0.out.size))
  have K1 := Lib.hid (K0.out.later hb)
  have hwq : w.heap.size = q := hq
  clear hb K0 B0 C1
  by_cases h : E = 0
  case neg =>
    obtain rfl : M = ([], E) := by rw [hT.out, if_pos h]
    have t : (E != 0) = true := by simpa using h
    clear h hT
    go_wp2_with fail
    exact bodyPost_ret (v := .tuple #[.slice none 0 0, .int .i64 E]) (by simp [results, Tryz.results18, go_sem]) rfl ⟨_, rfl, Own.nil _ _ _ _, by rw [← hq]; exact B1.out⟩
  have OK := Lib.hid (HOK.out.1 h)
  obtain rfl : M = ((selF tickF s.seats 0), 0) := by rw [hT.out, if_neg (by simpa using h)]
  subst h
  clear hT HOK
  have HLN := Lib.hid OK.out.len
  have hln := HLN.out
  have m5 := (show BoxN w1 q 29 (mdCells F s).toArray from HMS.out ▸ K1.out).cell 5 (.slice F.A s.seats.length F.ac) rfl
  have zq := K1.out.lt
  go_wp2_with fail
  clear m5 zq
  go_loopw [5, 18] (fun ov iv wr => ∃ i : Nat, i ≤ s.seats.length ∧ iv = .int .i64 (i : Int) ∧ Hid (AccSt tkR 54 q w wr ov (selF tickF (s.seats.take i) 0) ms.toArray)) (fun _ iv _ => s.seats.length - (intOf iv).toNat)
  case atStart => exact ⟨0, by omega, rfl, Lib.hid ⟨B1.out, K1.out, Own.nil _ _ _ _⟩⟩
  case round =>
    obtain ⟨i, hi, rfl, HA⟩ := hrel
    rename World => wr
    by_cases hlt : i < s.seats.length
    case neg =>
      obtain rfl : i = s.seats.length := by omega
      rw [List.take_length] at HA
      have t0 : decide ((s.seats.length : Int) < (s.seats.length : Int)) = false := by simp
      go_wp2_with fail
      exact bodyPost_ret (v := .tuple #[u5, .int .i64 0]) (by simp [results, Tryz.results18, go_sem]) rfl ⟨_, rfl, by rw [← hq]; exact HA.out.2.2, by rw [← hq]; exact HA.out.1⟩
    have t0 : decide ((i : Int) < (s.seats.length : Int)) = true := decide_eq_true (by omega)
    have hk0 : (0 : Int) ≤ (i : Int) := by omega
    have hk1 : (i : Int) < (s.seats.length : Int) := by omega
    obtain ⟨bS, oS, hA, hbS, d0, d1, d2, d3, d4, hx⟩ := (HS.out.seats.up HA.out.1).atX hlt
    have HN := Lib.hid (selF_succ tickF s.seats hlt)
    have HL := Lib.hid (selF_len (f := tickF) tickF_len (s.seats.take i) 0)
    have hll := HL.out
    rw [List.length_take, Nat.min_eq_left (by omega)] at hll
    rw [hA]
    clear hA HL
    generalize hac : selF tickF (s.seats.take i) 0 = ac at HA HN hll
    clear hac
    have HTO := Lib.hid (ticket_ok hx (i := i) (by omega))
    have CT := Lib.hid (fun W => sxTicket_any s.seats[i] (i : Int) W)
    have HF := Lib.hid (show tickF s.seats[i] i = if (sxTicket s.seats[i] (i : Int)).2 = 0 then [(sxTicket s.seats[i] (i : Int)).1] else [] from rfl)
    have hW : IntKind.u32.wrap (i : Int) = (i : Int) := IntWalk.u32_in _ (by omega)
    unfold sxV tkV at CT
    generalize sxTicket s.seats[i] (i : Int) = T at CT HF HTO
    obtain ⟨⟨ts, oo, tse, tep⟩, er⟩ := T
    simp only at CT HF HTO
    generalize s.seats[i] = sx at *
    go_upto_region 8 with fail
    obtain ⟨qx, hqx⟩ : ∃ qx, wr.heap.size = qx := ⟨_, rfl⟩
    rw [hqx]
    refine at_world (fun X => Below wr.heap.size wr X ∧ BoxN X qx 52 #[.int .i64 sx.state, .int .u32 sx.owner, .int .i64 sx.till, .int .u64 sx.serial, .int .u64 sx.epoch]) ⟨ba _ _, hqx ▸ BoxN.new wr 52 _⟩ fun wx hwx => ?_
    have HA := Lib.hid (HA.out.up hwx.1)
    clear d0 d1 d2 d3 d4
    have d0 := hwx.2.cell 0 _ rfl
    have d1 := hwx.2.cell 1 _ rfl
    have d2 := hwx.2.cell 2 _ rfl
    have d3 := hwx.2.cell 3 _ rfl
    have d4 := hwx.2.cell 4 _ rfl
    have zx := hwx.2.lt
    clear hwx hqx
    go_wp2_with fail
    refine (CT.out _).mono ?_
    rintro e w4 ⟨rfl, hb4⟩
    have HB := Lib.hid (HA.out.up hb4)
    clear hb4 d0 d1 d2 d3 d4 zx
    go_upto_region 9 with fail
    obtain ⟨qt, hqt⟩ : ∃ qt, w4.heap.size = qt := ⟨_, rfl⟩
    rw [hqt]
    refine at_world (fun X => Below w4.heap.size w4 X ∧ BoxN X qt 54 #[.int .u32 ts, .int .u32 oo, .int .u64 tse, .int .u64 tep]) ⟨ba _ _, hqt ▸ BoxN.new w4 54 _⟩ fun w5 hw5 => ?_
    have HC := Lib.hid (HB.out.up hw5.1)
    have k0 := hw5.2.cell 0 _ rfl
    have k1 := hw5.2.cell 1 _ rfl
    have k2 := hw5.2.cell 2 _ rfl
    have k3 := hw5.2.cell 3 _ rfl
    have zt := hw5.2.lt
    clear hw5 hqt HB
    by_cases he : er = 0
    case neg =>
      have t1 : (er == 0) = false := by simpa using he
      have HE := Lib.hid (HN.out.trans (by rw [HF.out, if_neg he, List.append_nil]))
      clear he HF HN
      go_wp2_with fail
      exact ⟨⟨i + 1, by omega, by go_num, Lib.hid (by rw [HE.out]; exact HC.out)⟩, by simp [intOf]; omega⟩
    have t1 : (er == 0) = true := by simpa using he
    have HE := Lib.hid (HN.out.trans (by rw [HF.out, if_pos he]))
    clear he HF HN
    go_wp2_with (first | (at_builtin; refine wpList_append_sl _ rfl (.tmp 32) (.tmp 34) 36 rfl tkR w.heap.size 54 _ 24 Tryz.underlying36 infoTk rfl (by decide) _ ac rfl ((HC.out).2.2.up (ba _ _)) _ [(⟨ts, oo, tse, tep⟩ : Tk)] rfl (tk_one _ _ _ rfl HTO.out) (by simp; omega) (by decide) (by have := (HC.out).1.size; simp [World.size_alloc]; omega) (fun w' _ cs y h => tkR_flat _ _ _ _ h) ?_; intro v9 w9 hown1 hg1 hat1))
    exact ⟨⟨i + 1, by omega, by go_num, Lib.hid (by rw [HE.out]; exact HC.out.add (by decide) hg1 hown1)⟩, by simp [intOf]; omega⟩

set_option maxHeartbeats 4000000 in
set_option maxRecDepth 20000 in
theorem rOf_any (F : MFrm) (s : Md) (owner : Int) (w : World) (hs : IsMd w F s) (hn : s.qs.length ≤ 1000 ∧ ∀ l, l ∈ s.qs → l.length ≤ 1000) :
    Calls Tryz.prog 21 #[mdV F s, .int .u32 owner] w fun e w' => ∃ v, e = .returned (.tuple #[v, .int .i64 (ofM s owner).2]) ∧ Own intR 3 w.heap.size w' v (ofM s owner).1 ∧ Below w.heap.size w w' := by
  have C1 := Lib.hid (fun W (hb : Below w.heap.size w W) => rcheck23_any F s W (hs.up hb) hn)
  have HS := Lib.hid hs
  have HOK := Lib.hid (@checkM_ok s)
  have hT := Lib.hid (show ofM s owner = if checkM s ≠ 0 then ([], checkM s) else ((selF (ofF owner) s.seats 0), 0) from rfl)
  have hcapS := hs.seats.capB
  generalize checkM s = E at C1 HOK hT
  clear hs hn
  have S7 := Lib.hid (show (Tryz.prog.info? 29).map (·.size) = some (mdCells F s).length by kernel_rfl)
  have MVk := Lib.hid (show mdV F s = .agg (mdCells F s).toArray from rfl)
  rw [MVk.out] at C1 ⊢
  obtain ⟨ms, hms⟩ : ∃ ms : List Value, ms = mdCells F s := ⟨_, rfl⟩
  rw [← hms] at C1 S7 ⊢
  have HMS := Lib.hid hms
  clear hms MVk
  generalize ofM s owner = M at hT ⊢
  go_enter Tryz.func21, Tryz.ntmps21
  go_upto_region 1 with fail
  obtain ⟨q, hq⟩ : ∃ q, w.heap.size = q := ⟨_, rfl⟩
  rw [hq]
  refine at_world (fun X => Below w.heap.size w X ∧ BoxN X q 29 ms.toArray) ⟨ba _ _, hq ▸ BoxN.new w 29 ms.toArray⟩ fun w0 hw0 => ?_
  have B0 := Lib.hid hw0.1
  have K0 := Lib.hid hw0.2
  clear hw0
  go_wp2_with (refine wpList_load_mid rfl 29 (.tmp 2) rfl q 0 rfl ms _ K0.out.range2 Tryz.underlying29 rfl S7.out ?_)
  refine (C1.out _ B0.out).mono ?_
  rintro e w1 ⟨rfl, hb⟩
  have B1 := Lib.hid (B0.out.trans (hb.mono B0.out.size))
  have K1 := Lib.hid (K0.out.later hb)
  have hwq : w.heap.size = q := hq
  clear hb K0 B0 C1
  by_cases h : E = 0
  case neg =>
    obtain rfl : M = ([], E) := by rw [hT.out, if_pos h]
    have t : (E != 0) = true := by simpa using h
    clear h hT
    go_wp2_with fail
    exact bodyPost_ret (v := .tuple #[.slice none 0 0, .int .i64 E]) (by simp [results, Tryz.results21, go_sem]) rfl ⟨_, rfl, Own.nil _ _ _ _, by rw [← hq]; exact B1.out⟩
  have OK := Lib.hid (HOK.out.1 h)
  obtain rfl : M = ((selF (ofF owner) s.seats 0), 0) := by rw [hT.out, if_neg (by simpa using h)]
  subst h
  clear hT HOK
  have HLN := Lib.hid OK.out.len
  have hln := HLN.out
  go_wp2_with fail
  go_loopw [7, 8] (fun ov iv wr => ∃ i : Nat, i ≤ s.seats.length ∧ iv = .int .i64 (i : Int) ∧ Hid (AccSt intR 3 q w wr ov (selF (ofF owner) (s.seats.take i) 0) ms.toArray)) (fun _ iv _ => s.seats.length - (intOf iv).toNat)
  case atStart => exact ⟨0, by omega, rfl, Lib.hid ⟨B1.out, K1.out, Own.nil _ _ _ _⟩⟩
  case round =>
    obtain ⟨i, hi, rfl, HA⟩ := hrel
    rename World => wr
    have m5 := (show BoxN wr q 29 (mdCells F s).toArray from HMS.out ▸ HA.out.2.1).cell 5 (.slice F.A s.seats.length F.ac) rfl
    have zq := HA.out.2.1.lt
    by_cases hlt : i < s.seats.length
    case neg =>
      obtain rfl : i = s.seats.length := by omega
      rw [List.take_length] at HA
      have t0 : decide ((s.seats.length : Int) < (s.seats.length : Int)) = false := by simp
      go_wp2_with fail
      exact bodyPost_ret (v := .tuple #[u7, .int .i64 0]) (by simp [results, Tryz.results21, go_sem]) rfl ⟨_, rfl, by rw [← hq]; exact HA.out.2.2, by rw [← hq]; exact HA.out.1⟩
    have t0 : decide ((i : Int) < (s.seats.length : Int)) = true := decide_eq_true (by omega)
    have hk0 : (0 : Int) ≤ (i : Int) := by omega
    have hk1 : (i : Int) < (s.seats.length : Int) := by omega
    obtain ⟨bS, oS, hA, hbS, d0, d1, d2, d3, d4, hx⟩ := (HS.out.seats.up HA.out.1).atX hlt
    have HN := Lib.hid (selF_succ (ofF owner) s.seats hlt)
    have HL := Lib.hid (selF_len (f := (ofF owner)) (ofF_len owner) (s.seats.take i) 0)
    have hll := HL.out
    rw [List.length_take, Nat.min_eq_left (by omega)] at hll
    rw [hA] at m5
    clear hA HL
    generalize hac : selF (ofF owner) (s.seats.take i) 0 = ac at HA HN hll
    clear hac
    have HF := Lib.hid (show ofF owner s.seats[i] i = if s.seats[i].state ≠ 0 ∧ s.seats[i].owner = owner then [(i : Int)] else [] from rfl)
    generalize s.seats[i] = sx at *
    by_cases h1 : sx.state = 0
    case pos =>
      have t1 : (sx.state != 0) = false := by simpa using h1
      have HE := Lib.hid (HN.out.trans (by rw [HF.out, if_neg (fun h => h.1 h1), List.append_nil]))
      clear h1 HF HN
      go_wp2_with fail
      exact ⟨⟨i + 1, by omega, by go_num, Lib.hid (by rw [HE.out]; exact HA.out)⟩, by simp [intOf]; omega⟩
    have t1 : (sx.state != 0) = true := by simpa using h1
    by_cases h2 : sx.owner = owner
    case neg =>
      have t2 : (sx.owner == owner) = false := by simpa using h2
      have HE := Lib.hid (HN.out.trans (by rw [HF.out, if_neg (fun h => h2 h.2), List.append_nil]))
      clear h1 h2 HF HN
      go_wp2_with fail
      exact ⟨⟨i + 1, by omega, by go_num, Lib.hid (by rw [HE.out]; exact HA.out)⟩, by simp [intOf]; omega⟩
    have t2 : (sx.owner == owner) = true := by simpa using h2
    have HE := Lib.hid (HN.out.trans (by rw [HF.out, if_pos ⟨h1, h2⟩]))
    clear h1 h2 HF HN
    go_wp2_with (first | (at_builtin; refine wpList_append_sl _ rfl (.tmp 38) (.tmp 40) 39 rfl intR w.heap.size 3 _ 8 Tryz.underlying39 infoIm rfl (by decide) _ ac rfl ((HA.out).2.2.up (ba _ _)) _ [(i : Int)] rfl (sl_one _ _ _ _ rfl (by unfold Bd; omega)) (by simp; omega) (by decide) (by have := (HA.out).1.size; simp [World.size_alloc]; omega) (fun w' _ cs y h => intR_flat _ _ _ _ h) ?_; intro v9 w9 hown1 hg1 hat1))
    exact ⟨⟨i + 1, by omega, by go_num, Lib.hid (by rw [HE.out]; exact HA.out.add (by decide) hg1 hown1)⟩, by simp [intOf]; omega⟩

set_option maxHeartbeats 4000000 in
set_option maxRecDepth 20000 in
theorem mOf_any (F : MFrm) (s : Md) (owner : Int) (w : World) (hs : IsMd w F s) (hn : s.qs.length ≤ 1000 ∧ ∀ l, l ∈ s.qs → l.length ≤ 1000) :
    Calls Tryz.prog 20 #[mdV F s, .int .u32 owner] w fun e w' => ∃ v, e = .returned (.tuple #[v, .int .i64 (ofM s owner).2]) ∧ Own intR 3 w.heap.size w' v (ofM s owner).1 ∧ Below w.heap.size w w' := by
  have C1 := Lib.hid (fun W (hb : Below w.heap.size w W) => mcheck_any F s W (hs.up hb) hn)
  have HS := Lib.hid hs
  have HOK := Lib.hid (@checkM_ok s)
  have hT := Lib.hid (show ofM s owner = if checkM s ≠ 0 then ([], checkM s) else ((selF (ofF owner) s.seats 0), 0) from rfl)
  have hcapS := hs.seats.capB
  generalize checkM s = E at C1 HOK hT
  clear hs hn
  have S7 := Lib.hid (show (Tryz.prog.info? 29).map (·.size) = some (mdCells F s).length by kernel_rfl)
  have MVk := Lib.hid (show mdV F s = .agg (mdCells F s).toArray from rfl)
  rw [MVk.out] at C1 ⊢
  obtain ⟨ms, hms⟩ : ∃ ms : List Value, ms = mdCells F s := ⟨_, rfl⟩
  rw [← hms] at C1 S7 ⊢
  have HMS := Lib.hid hms
  clear hms MVk
  generalize ofM s owner = M at hT ⊢
  go_enter Tryz.func20, Tryz.ntmps20
  go_upto_region 1 with fail
  obtain ⟨q, hq⟩ : ∃ q, w.heap.size = q := ⟨_, rfl⟩
  rw [hq]
  refine at_world (fun X => Below w.heap.size w X ∧ BoxN X q 29 ms.toArray) ⟨ba _ _, hq ▸ BoxN.new w 29 ms.toArray⟩ fun w0 hw0 => ?_
  have B0 := Lib.hid hw0.1
  have K0 := Lib.hid hw0.2
  clear hw0
  go_wp2_with (refine wpList_load_mid rfl 29 (.tmp 2) rfl q 0 rfl ms _ K0.out.range2 Tryz.underlying29 rfl S7.out ?_)
  refine (C1.out _ B0.out).mono ?_
  rintro e w1 ⟨rfl, hb⟩
  have B1 := Lib.hid (B0.out.trans (hb.mono B0.out.size))
  have K1 := Lib.hid (K0.out.later hb)
  have hwq : w.heap.size = q := hq
  clear hb K0 B0 C1
  by_cases h : E = 0
  case neg =>
    obtain rfl : M = ([], E) := by rw [hT.out, if_pos h]
    have t : (E != 0) = true := by simpa using h
    clear h hT
    go_wp2_with fail
    exact bodyPost_ret (v := .tuple #[.slice none 0 0, .int .i64 E]) (by simp [results, Tryz.results20, go_sem]) rfl ⟨_, rfl, Own.nil _ _ _ _, by rw [← hq]; exact B1.out⟩
  have OK := Lib.hid (HOK.out.1 h)
  obtain rfl : M = ((selF (ofF owner) s.seats 0), 0) := by rw [hT.out, if_neg (by simpa using h)]
  subst h
  clear hT HOK
  have HLN := Lib.hid OK.out.len
  have hln := HLN.out
  have m5 := (show BoxN w1 q 29 (mdCells F s).toArray from HMS.out ▸ K1.out).cell 5 (.slice F.A s.seats.length F.ac) rfl
  have zq := K1.out.lt
  go_wp2_with fail
  clear m5 zq
  go_loopw [7, 18] (fun ov iv wr => ∃ i : Nat, i ≤ s.seats.length ∧ iv = .int .i64 (i : Int) ∧ Hid (AccSt intR 3 q w wr ov (selF (ofF owner) (s.seats.take i) 0) ms.toArray)) (fun _ iv _ => s.seats.length - (intOf iv).toNat)
  case atStart => exact ⟨0, by omega, rfl, Lib.hid ⟨B1.out, K1.out, Own.nil _ _ _ _⟩⟩
  case round =>
    obtain ⟨i, hi, rfl, HA⟩ := hrel
    rename World => wr
    by_cases hlt : i < s.seats.length
    case neg =>
      obtain rfl : i = s.seats.length := by omega
      rw [List.take_length] at HA
      have t0 : decide ((s.seats.length : Int) < (s.seats.length : Int)) = false := by simp
      go_wp2_with fail
      exact bodyPost_ret (v := .tuple #[u7, .int .i64 0]) (by simp [results, Tryz.results20, go_sem]) rfl ⟨_, rfl, by rw [← hq]; exact HA.out.2.2, by rw [← hq]; exact HA.out.1⟩
    have t0 : decide ((i : Int) < (s.seats.length : Int)) = true := decide_eq_true (by omega)
    have hk0 : (0 : Int) ≤ (i : Int) := by omega
    have hk1 : (i : Int) < (s.seats.length : Int) := by omega
    obtain ⟨bS, oS, hA, hbS, d0, d1, d2, d3, d4, hx⟩ := (HS.out.seats.up HA.out.1).atX hlt
    have HN := Lib.hid (selF_succ (ofF owner) s.seats hlt)
    have HL := Lib.hid (selF_len (f := (ofF owner)) (ofF_len owner) (s.seats.take i) 0)
    have hll := HL.out
    rw [List.length_take, Nat.min_eq_left (by omega)] at hll
    rw [hA]
    clear hA HL
    generalize hac : selF (ofF owner) (s.seats.take i) 0 = ac at HA HN hll
    clear hac
    have HF := Lib.hid (show ofF owner s.seats[i] i = if s.seats[i].state ≠ 0 ∧ s.seats[i].owner = owner then [(i : Int)] else [] from rfl)
    generalize s.seats[i] = sx at *
    go_upto_region 8 with fail
    obtain ⟨qx, hqx⟩ : ∃ qx, wr.heap.size = qx := ⟨_, rfl⟩
    rw [hqx]
    refine at_world (fun X => Below wr.heap.size wr X ∧ BoxN X qx 52 #[.int .i64 sx.state, .int .u32 sx.owner, .int .i64 sx.till, .int .u64 sx.serial, .int .u64 sx.epoch]) ⟨ba _ _, hqx ▸ BoxN.new wr 52 _⟩ fun wx hwx => ?_
    have HA := Lib.hid (HA.out.up hwx.1)
    clear d0 d1 d2 d3 d4
    have d0 := hwx.2.cell 0 _ rfl
    have d1 := hwx.2.cell 1 _ rfl
    have zx := hwx.2.lt
    clear hwx hqx
    by_cases h1 : sx.state = 0
    case pos =>
      have t1 : (sx.state != 0) = false := by simpa using h1
      have HE := Lib.hid (HN.out.trans (by rw [HF.out, if_neg (fun h => h.1 h1), List.append_nil]))
      clear h1 HF HN
      go_wp2_with fail
      exact ⟨⟨i + 1, by omega, by go_num, Lib.hid (by rw [HE.out]; exact HA.out)⟩, by simp [intOf]; omega⟩
    have t1 : (sx.state != 0) = true := by simpa using h1
    by_cases h2 : sx.owner = owner
    case neg =>
      have t2 : (sx.owner == owner) = false := by simpa using h2
      have HE := Lib.hid (HN.out.trans (by rw [HF.out, if_neg (fun h => h2 h.2), List.append_nil]))
      clear h1 h2 HF HN
      go_wp2_with fail
      exact ⟨⟨i + 1, by omega, by go_num, Lib.hid (by rw [HE.out]; exact HA.out)⟩, by simp [intOf]; omega⟩
    have t2 : (sx.owner == owner) = true := by simpa using h2
    have HE := Lib.hid (HN.out.trans (by rw [HF.out, if_pos ⟨h1, h2⟩]))
    clear h1 h2 HF HN
    go_wp2_with (first | (at_builtin; refine wpList_append_sl _ rfl (.tmp 32) (.tmp 34) 39 rfl intR w.heap.size 3 _ 8 Tryz.underlying39 infoIm rfl (by decide) _ ac rfl ((HA.out).2.2.up (ba _ _)) _ [(i : Int)] rfl (sl_one _ _ _ _ rfl (by unfold Bd; omega)) (by simp; omega) (by decide) (by have := (HA.out).1.size; simp [World.size_alloc]; omega) (fun w' _ cs y h => intR_flat _ _ _ _ h) ?_; intro v9 w9 hown1 hg1 hat1))
    exact ⟨⟨i + 1, by omega, by go_num, Lib.hid (by rw [HE.out]; exact HA.out.add (by decide) hg1 hown1)⟩, by simp [intOf]; omega⟩

end Go.Proofs.YtinbjfkkpcpokaaGreatDoor
