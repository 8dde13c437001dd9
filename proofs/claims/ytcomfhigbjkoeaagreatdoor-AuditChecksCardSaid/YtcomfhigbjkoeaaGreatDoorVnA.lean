/-
  No statement is proved here: venues and their sections as data; what the layer's functions answer. Conditions: none.
-/
import Derived.Test.YtcomfhigbjkoeaaGreatDoorLibC
import Derived.Test.YtcomfhigbjkoeaaGreatDoorProg
namespace Go.Proofs.YtcomfhigbjkoeaaGreatDoor
open Go.RowKit

/-- A section of a venue. -/
structure Sec where
  name : ByteArray
  rows : List Int
  queue : Int
deriving DecidableEq
/-- A venue. -/
structure Ve where
  shards : Int
  ttl : Int
  session : Int
  secs : List Sec
deriving DecidableEq

def secR : Rep Sec where
  size := 3
  is w cs x := ∃ A c, cs = [.string x.name, .slice A x.rows.length c, .int .i64 x.queue] ∧ Sl intR w (.slice A x.rows.length c) x.rows ∧ Bd x.queue ∧ x.name.size ≤ 9223372036854775807
  len h := by obtain ⟨_, _, rfl, _⟩ := h; rfl
  one h := by obtain ⟨_, _, rfl, _⟩ := h; simp [Value.oneCell']
  up hb h := by obtain ⟨A, c, h1, h2, h3⟩ := h; exact ⟨A, c, h1, h2.up hb, h3⟩

theorem Sl.atS {w : World} {A : Option Addr} {n c k : Nat} {xs : List Sec} (h : Sl secR w (.slice A n c) xs) (hk : k < xs.length) :
    ∃ b off A' c', A = some ⟨b, off, .none⟩ ∧ b < w.heap.size ∧ w.cell? ⟨b, off + k * 3, .none⟩ = some (.string xs[k].name) ∧ w.cell? ⟨b, off + k * 3 + 1, .none⟩ = some (.slice A' xs[k].rows.length c') ∧ w.cell? ⟨b, off + k * 3 + 2, .none⟩ = some (.int .i64 xs[k].queue) ∧
      Sl intR w (.slice A' xs[k].rows.length c') xs[k].rows ∧ Bd xs[k].queue ∧ xs[k].name.size ≤ 9223372036854775807 := by
  obtain ⟨b, off, cs, rfl, hb, ⟨A', c', rfl, hx, hy, hz⟩, h2⟩ := h.at_ hk
  exact ⟨b, off, A', c', rfl, hb, h2 0 _ rfl, h2 1 _ rfl, h2 2 _ rfl, hx, hy, hz⟩

/-- A venue as a value. -/
def IsVe (w : World) (v : Value) (x : Ve) : Prop := ∃ A c, v = .agg #[.int .i64 x.shards, .int .i64 x.ttl, .int .i64 x.session, .slice A x.secs.length c] ∧ Sl secR w (.slice A x.secs.length c) x.secs ∧ Bd x.shards ∧ Bd x.ttl ∧ Bd x.session

def lowB (c : UInt8) : Bool := decide (97 ≤ c.toNat) && decide (c.toNat ≤ 122)
def wordB (c : UInt8) : Bool := lowB c || (decide (48 ≤ c.toNat) && decide (c.toNat ≤ 57)) || decide (c.toNat = 45)
/-- A name of the layer 'words'. -/
def nameB (s : ByteArray) : Bool := decide (1 ≤ s.size) && decide (s.size ≤ 16) && lowB (s.data.toList.getD 0 0) && s.data.toList.all wordB

/-- Whether a number is outside a range. -/
def outB (n lo hi : Int) : Bool := decide (n < lo) || decide (hi < n)

/-- The error of a section behind others. -/
def secE (x : Sec) (before : List Sec) : Int :=
  if nameB x.name = false then 6 else if (before.any fun y => y.name.toList == x.name.toList) then 8 else if x.rows.length = 0 then 6 else if 16 < x.rows.length then 3
  else if x.rows.any (fun n => outB n 1 64) then 7 else if outB x.queue 0 64 then 7 else 0

/-- The first section with an error, from number i on, and the error. -/
def secsE (before : List Sec) : List Sec → Nat → Option (Nat × Int)
  | [], _ => none
  | x :: xs, i => if secE x before ≠ 0 then some (i, secE x before) else secsE (before ++ [x]) xs (i + 1)

def sum : List Int → Int
  | [] => 0
  | x :: l => x + sum l
def allRows (x : Ve) : List Int := x.secs.flatMap (·.rows)

/-- What Check answers. -/
def checkV (x : Ve) : Int × Int :=
  if (outB x.shards 1 16 || outB x.ttl 1 1000000000 || outB x.session 1 1000000000) = true then (-1, 7)
  else if x.secs.length = 0 then (-1, 6) else if 8 < x.secs.length then (-1, 3)
  else match secsE [] x.secs 0 with
  | some (i, e) => ((i : Int), e)
  | none => if 4096 < sum (allRows x) then (-1, 3) else (0, 0)

/-- How many seats there are. -/
def seatsV (x : Ve) : Int × Int := if (checkV x).2 ≠ 0 then (0, (checkV x).2) else (sum (allRows x), 0)

end Go.Proofs.YtcomfhigbjkoeaaGreatDoor
