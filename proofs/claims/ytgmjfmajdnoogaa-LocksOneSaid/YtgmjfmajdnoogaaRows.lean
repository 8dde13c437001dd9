/-
  No cell of these rows narrows 'for every input' (looked for: loops, veiled, ifaces, maps, wideKeys, modest, calm, conditions, laid).
  DERIVED. THE GIVEN ROWS OF THIS SEAT. 6 by the template 'for every input the law returns true; each argument reads behind the call as it read before'; 0 by the template 'total and deterministic' (their statements: YtgmjfmajdnoogaaTotals.lean).
  GIVEN WITH THE SEED: the statements are not yours to turn. If you find one false, say at which input.
  Laid BY PROGRAM, IN A SANDBOX (cutbox-rows.mjs): the forced cells as the released guide's own fill.sh prints them over the translation 307657c61c3b23e9… (all of the seat's roots in one cut). By AI agents, Wed Nov 11 2026. No macro, syntax, notation, axiom, sorry.
-/
import Derived.Test.YtgmjfmajdnoogaaChecked
import GoSem.Claim
import GoSem.ClaimJoined
import GoSem.ClaimMapViews
import Derived.JoinedTies
import Derived.KernelRfl
namespace Go.Proofs.Ytgmjfmajdnoogaa
/- THE CELL 'sum', in the pinned program and in every row, IS THE sha256 OF THE DUMP (.gsa) THAT YtgmjfmajdnoogaaProg.lean LOADS. Nothing in Lean hashes anything: it is a label: what it is worth is what the hold of that sum in a sandbox is worth. -/
noncomputable def Try.pinned : Pinned := { name := "ytgmjfmajdnoogaa", sum := "307657c61c3b23e980ac83a74779f5a39ccb9c1cf6733bbf450f4b5856f13220", checked := Try.checked }
namespace Rows
def none {H : Type} : Left H := { results := [], args := [] }

/-- 'groundlinglaw14.LocksCycles': WHATEVER THE INPUT: true; the input reads as it did. -/
def locksCyclesSpec : ChangeSpec := { name := "locksCycles", fn := fun _ => fun
  | [d] => { results := [.lit (.bool true)], args := [d] }
  | _ => none }
def locksCyclesRow : OpenClaim := { program := "ytgmjfmajdnoogaa", sum := "307657c61c3b23e980ac83a74779f5a39ccb9c1cf6733bbf450f4b5856f13220", func := "groundling/groundlinglaw14.LocksCycles", spec := "locksCycles", unfollowed := true, recurses := true, apart := false }
def LocksCyclesSaid : Prop := locksCyclesRow.holds Try.pinned (OpenSpec.ofChange locksCyclesSpec)

/-- ITS FALSE NEIGHBOUR: 'it returns false'. Refute it at one input. -/
def locksCyclesWrong : ChangeSpec := { name := "locksCycles", fn := fun _ => fun
  | [d] => { results := [.lit (.bool false)], args := [d] }
  | _ => none }
def LocksCyclesWrongFalsely : Prop := locksCyclesRow.holds Try.pinned (OpenSpec.ofChange locksCyclesWrong)

/-- 'groundlinglaw14.LocksKnown': WHATEVER THE INPUT: true; the input reads as it did. -/
def locksKnownSpec : ChangeSpec := { name := "locksKnown", fn := fun _ => fun
  | [] => { results := [.lit (.bool true)], args := [] }
  | _ => none }
def locksKnownRow : OpenClaim := { program := "ytgmjfmajdnoogaa", sum := "307657c61c3b23e980ac83a74779f5a39ccb9c1cf6733bbf450f4b5856f13220", func := "groundling/groundlinglaw14.LocksKnown", spec := "locksKnown", unfollowed := true, recurses := true, apart := false }
def LocksKnownSaid : Prop := locksKnownRow.holds Try.pinned (OpenSpec.ofChange locksKnownSpec)

/-- ITS FALSE NEIGHBOUR: 'it returns false'. Refute it at one input. -/
def locksKnownWrong : ChangeSpec := { name := "locksKnown", fn := fun _ => fun
  | [] => { results := [.lit (.bool false)], args := [] }
  | _ => none }
def LocksKnownWrongFalsely : Prop := locksKnownRow.holds Try.pinned (OpenSpec.ofChange locksKnownWrong)

/-- 'groundlinglaw14.LocksStates': WHATEVER THE INPUT: true; the input reads as it did. -/
def locksStatesSpec : ChangeSpec := { name := "locksStates", fn := fun _ => fun
  | [d1, d2] => { results := [.lit (.bool true)], args := [d1, d2] }
  | _ => none }
def locksStatesRow : OpenClaim := { program := "ytgmjfmajdnoogaa", sum := "307657c61c3b23e980ac83a74779f5a39ccb9c1cf6733bbf450f4b5856f13220", func := "groundling/groundlinglaw14.LocksStates", spec := "locksStates", inPlace := ["slices.overlaps[groundling/api.LkWait]"], unfollowed := true, recurses := true, apart := false }
def LocksStatesSaid : Prop := locksStatesRow.holds Try.pinned (OpenSpec.ofChange locksStatesSpec)

/-- ITS FALSE NEIGHBOUR: 'it returns false'. Refute it at one input. -/
def locksStatesWrong : ChangeSpec := { name := "locksStates", fn := fun _ => fun
  | [d1, d2] => { results := [.lit (.bool false)], args := [d1, d2] }
  | _ => none }
def LocksStatesWrongFalsely : Prop := locksStatesRow.holds Try.pinned (OpenSpec.ofChange locksStatesWrong)

/-- 'groundlinglaw14.LocksOrder': WHATEVER THE INPUT: true; the input reads as it did. -/
def locksOrderSpec : ChangeSpec := { name := "locksOrder", fn := fun _ => fun
  | [d1, d2] => { results := [.lit (.bool true)], args := [d1, d2] }
  | _ => none }
def locksOrderRow : OpenClaim := { program := "ytgmjfmajdnoogaa", sum := "307657c61c3b23e980ac83a74779f5a39ccb9c1cf6733bbf450f4b5856f13220", func := "groundling/groundlinglaw14.LocksOrder", spec := "locksOrder", inPlace := ["slices.overlaps[groundling/api.LkWait]"], unfollowed := true, recurses := true, apart := false }
def LocksOrderSaid : Prop := locksOrderRow.holds Try.pinned (OpenSpec.ofChange locksOrderSpec)

/-- ITS FALSE NEIGHBOUR: 'it returns false'. Refute it at one input. -/
def locksOrderWrong : ChangeSpec := { name := "locksOrder", fn := fun _ => fun
  | [d1, d2] => { results := [.lit (.bool false)], args := [d1, d2] }
  | _ => none }
def LocksOrderWrongFalsely : Prop := locksOrderRow.holds Try.pinned (OpenSpec.ofChange locksOrderWrong)

/-- 'groundlinglaw14.LocksPlays': WHATEVER THE INPUT: true; the input reads as it did. -/
def locksPlaysSpec : ChangeSpec := { name := "locksPlays", fn := fun _ => fun
  | [d1, d2] => { results := [.lit (.bool true)], args := [d1, d2] }
  | _ => none }
def locksPlaysRow : OpenClaim := { program := "ytgmjfmajdnoogaa", sum := "307657c61c3b23e980ac83a74779f5a39ccb9c1cf6733bbf450f4b5856f13220", func := "groundling/groundlinglaw14.LocksPlays", spec := "locksPlays", inPlace := ["slices.overlaps[groundling/api.LkWait]"], unfollowed := true, recurses := true, apart := false }
def LocksPlaysSaid : Prop := locksPlaysRow.holds Try.pinned (OpenSpec.ofChange locksPlaysSpec)

/-- ITS FALSE NEIGHBOUR: 'it returns false'. Refute it at one input. -/
def locksPlaysWrong : ChangeSpec := { name := "locksPlays", fn := fun _ => fun
  | [d1, d2] => { results := [.lit (.bool false)], args := [d1, d2] }
  | _ => none }
def LocksPlaysWrongFalsely : Prop := locksPlaysRow.holds Try.pinned (OpenSpec.ofChange locksPlaysWrong)

/-- 'groundlinglaw14.LocksOne': WHATEVER THE INPUT: true; the input reads as it did. -/
def locksOneSpec : ChangeSpec := { name := "locksOne", fn := fun _ => fun
  | [d1, d2, d3] => { results := [.lit (.bool true)], args := [d1, d2, d3] }
  | _ => none }
def locksOneRow : OpenClaim := { program := "ytgmjfmajdnoogaa", sum := "307657c61c3b23e980ac83a74779f5a39ccb9c1cf6733bbf450f4b5856f13220", func := "groundling/groundlinglaw14.LocksOne", spec := "locksOne", inPlace := ["slices.overlaps[groundling/api.LkWait]"], unfollowed := true, recurses := true, apart := false }
def LocksOneSaid : Prop := locksOneRow.holds Try.pinned (OpenSpec.ofChange locksOneSpec)

/-- ITS FALSE NEIGHBOUR: 'it returns false'. Refute it at one input. -/
def locksOneWrong : ChangeSpec := { name := "locksOne", fn := fun _ => fun
  | [d1, d2, d3] => { results := [.lit (.bool false)], args := [d1, d2, d3] }
  | _ => none }
def LocksOneWrongFalsely : Prop := locksOneRow.holds Try.pinned (OpenSpec.ofChange locksOneWrong)

/- THE SECOND FORM. 'bulk': how many values and letters a reading holds, each counted each time it is reached (what is shared counts as often as it is met; a slice's spare places count too). A statement '..UptoSaid' is the law's where the arguments, and the package variables that the reading takes, are together of bulk at most 1048576: NARROWER than '..Said'. Prove '..Said' where nothing that the law and all that it calls make is longer than what came in: it says more and counts as full. Else prove '..UptoSaid'. A law counts once. -/
mutual
def uptoBulk {H : Type} : DataW H → Nat
  | .lit (.string bytes) => bytes.length + 1
  | .lit _ => 1
  | .nil => 1
  | .ptr d => uptoBulk d + 1
  | .slice elems spare => uptoBulkAll elems + uptoBulkAll spare + 1
  | .agg parts => uptoBulkAll parts + 1
  | .iface _ d => uptoBulk d + 1
  | .map entries => uptoBulkEntries entries + 1
  | .held _ => 1
def uptoBulkAll {H : Type} : List (DataW H) → Nat
  | [] => 0
  | d :: r => uptoBulk d + uptoBulkAll r
def uptoBulkEntries {H : Type} : List (Lit × DataW H) → Nat
  | [] => 0
  | x :: r => uptoBulkEntry x + uptoBulkEntries r
def uptoBulkEntry {H : Type} : Lit × DataW H → Nat
  | (.string bytes, d) => bytes.length + uptoBulk d + 1
  | (_, d) => uptoBulk d + 1
 end
def uptoSmall : (H : Type) → List (DataW H) → Bool := fun _ ds => decide (uptoBulkAll ds ≤ 1048576)
def OpenSpec.upto (s : _root_.Go.ChangeSpec) : _root_.Go.OpenSpec := { _root_.Go.OpenSpec.ofChange s with cond := some uptoSmall }

/-- 'groundlinglaw14.LocksCycles', WHERE WHAT IT READS IS OF BULK AT MOST 1048576: true; the input reads as it did. -/
def locksCyclesUptoRow : OpenClaim := { program := "ytgmjfmajdnoogaa", sum := "307657c61c3b23e980ac83a74779f5a39ccb9c1cf6733bbf450f4b5856f13220", func := "groundling/groundlinglaw14.LocksCycles", spec := "locksCycles", unfollowed := true, recurses := true, apart := false, narrowed := true }
def LocksCyclesUptoSaid : Prop := locksCyclesUptoRow.holds Try.pinned (OpenSpec.upto locksCyclesSpec)

/-- 'groundlinglaw14.LocksKnown', WHERE WHAT IT READS IS OF BULK AT MOST 1048576: true; the input reads as it did. -/
def locksKnownUptoRow : OpenClaim := { program := "ytgmjfmajdnoogaa", sum := "307657c61c3b23e980ac83a74779f5a39ccb9c1cf6733bbf450f4b5856f13220", func := "groundling/groundlinglaw14.LocksKnown", spec := "locksKnown", unfollowed := true, recurses := true, apart := false, narrowed := true }
def LocksKnownUptoSaid : Prop := locksKnownUptoRow.holds Try.pinned (OpenSpec.upto locksKnownSpec)

/-- 'groundlinglaw14.LocksStates', WHERE WHAT IT READS IS OF BULK AT MOST 1048576: true; the input reads as it did. -/
def locksStatesUptoRow : OpenClaim := { program := "ytgmjfmajdnoogaa", sum := "307657c61c3b23e980ac83a74779f5a39ccb9c1cf6733bbf450f4b5856f13220", func := "groundling/groundlinglaw14.LocksStates", spec := "locksStates", inPlace := ["slices.overlaps[groundling/api.LkWait]"], unfollowed := true, recurses := true, apart := false, narrowed := true }
def LocksStatesUptoSaid : Prop := locksStatesUptoRow.holds Try.pinned (OpenSpec.upto locksStatesSpec)

/-- 'groundlinglaw14.LocksOrder', WHERE WHAT IT READS IS OF BULK AT MOST 1048576: true; the input reads as it did. -/
def locksOrderUptoRow : OpenClaim := { program := "ytgmjfmajdnoogaa", sum := "307657c61c3b23e980ac83a74779f5a39ccb9c1cf6733bbf450f4b5856f13220", func := "groundling/groundlinglaw14.LocksOrder", spec := "locksOrder", inPlace := ["slices.overlaps[groundling/api.LkWait]"], unfollowed := true, recurses := true, apart := false, narrowed := true }
def LocksOrderUptoSaid : Prop := locksOrderUptoRow.holds Try.pinned (OpenSpec.upto locksOrderSpec)

/-- 'groundlinglaw14.LocksPlays', WHERE WHAT IT READS IS OF BULK AT MOST 1048576: true; the input reads as it did. -/
def locksPlaysUptoRow : OpenClaim := { program := "ytgmjfmajdnoogaa", sum := "307657c61c3b23e980ac83a74779f5a39ccb9c1cf6733bbf450f4b5856f13220", func := "groundling/groundlinglaw14.LocksPlays", spec := "locksPlays", inPlace := ["slices.overlaps[groundling/api.LkWait]"], unfollowed := true, recurses := true, apart := false, narrowed := true }
def LocksPlaysUptoSaid : Prop := locksPlaysUptoRow.holds Try.pinned (OpenSpec.upto locksPlaysSpec)

/-- 'groundlinglaw14.LocksOne', WHERE WHAT IT READS IS OF BULK AT MOST 1048576: true; the input reads as it did. -/
def locksOneUptoRow : OpenClaim := { program := "ytgmjfmajdnoogaa", sum := "307657c61c3b23e980ac83a74779f5a39ccb9c1cf6733bbf450f4b5856f13220", func := "groundling/groundlinglaw14.LocksOne", spec := "locksOne", inPlace := ["slices.overlaps[groundling/api.LkWait]"], unfollowed := true, recurses := true, apart := false, narrowed := true }
def LocksOneUptoSaid : Prop := locksOneUptoRow.holds Try.pinned (OpenSpec.upto locksOneSpec)

end Rows
end Go.Proofs.Ytgmjfmajdnoogaa
