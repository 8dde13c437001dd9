/-
  NARROWER THAN 'FOR EVERY INPUT', by the rows' own cells (each row's printed sentence says how): ModelKnown: laid · ModelChecks: laid · ModelEnds: laid · ModelDoes: laid · ModelPlays: laid · ModelKeeps: laid · ModelOne: laid · ModelWaits: laid · ModelTicks: laid.
  DERIVED. THE GIVEN ROWS OF THIS SEAT. 9 by the template 'for every input the law returns true; each argument reads behind the call as it read before'; 0 by the template 'total and deterministic' (their statements: YtinbjfkkpcpokaaGreatDoorTotals.lean).
  GIVEN WITH THE SEED: the statements are not yours to turn. If you find one false, say at which input.
  Laid BY PROGRAM, IN A SANDBOX (cutbox-rows.mjs): the forced cells as the released guide's own fill.sh prints them over the translation fcead64559962c0b… (all of the seat's roots in one cut). By AI agents, Wed Nov 11 2026. No macro, syntax, notation, axiom, sorry.
-/
import Derived.Test.YtinbjfkkpcpokaaGreatDoorChecked
import GoSem.PinnedTables
import GoSem.Claim
import GoSem.ClaimJoined
import GoSem.ClaimMapViews
import Derived.JoinedTies
import Derived.KernelRfl
namespace Go.Proofs.YtinbjfkkpcpokaaGreatDoor
/- THE CELL 'sum', in the pinned program and in every row, IS THE sha256 OF THE DUMP (.gsa) THAT YtinbjfkkpcpokaaGreatDoorProg.lean LOADS. Nothing in Lean hashes anything: it is a label: what it is worth is what the hold of that sum in a sandbox is worth. -/
noncomputable def Tryz.pinned : Pinned := { name := "ytinbjfkkpcpokaagreatdoor", sum := "fcead64559962c0b05933a4167ee7c4927ee8342cddc621f57251efa3898a901", checked := Tryz.checked }
namespace Rows
def none {H : Type} : Left H := { results := [], args := [] }

/- WHAT THE LISTED PACKAGE-LEVEL VARIABLES READ AS WHEN THE CALL BEGINS. Each datum BY PROGRAM (the guide's laid-datum.mjs) off the statement by which the dump's own 'gosem.cut.vars' lays the variable. In a bare row this is a premise. The card (YtinbjfkkpcpokaaGreatDoorCards.lean) ties it to the program's text. -/
def laid_unicode_utf8_acceptRanges {H : Type} : DataW H := .agg [.agg [.lit (.int .u8 128), .lit (.int .u8 191)], .agg [.lit (.int .u8 160), .lit (.int .u8 191)], .agg [.lit (.int .u8 128), .lit (.int .u8 159)], .agg [.lit (.int .u8 144), .lit (.int .u8 191)], .agg [.lit (.int .u8 128), .lit (.int .u8 143)], .agg [.lit (.int .u8 0), .lit (.int .u8 0)], .agg [.lit (.int .u8 0), .lit (.int .u8 0)], .agg [.lit (.int .u8 0), .lit (.int .u8 0)], .agg [.lit (.int .u8 0), .lit (.int .u8 0)], .agg [.lit (.int .u8 0), .lit (.int .u8 0)], .agg [.lit (.int .u8 0), .lit (.int .u8 0)], .agg [.lit (.int .u8 0), .lit (.int .u8 0)], .agg [.lit (.int .u8 0), .lit (.int .u8 0)], .agg [.lit (.int .u8 0), .lit (.int .u8 0)], .agg [.lit (.int .u8 0), .lit (.int .u8 0)], .agg [.lit (.int .u8 0), .lit (.int .u8 0)]]
def laid_groundling_plans_uses {H : Type} : DataW H := .agg [.lit (.int .i64 0), .lit (.int .i64 1), .lit (.int .i64 7), .lit (.int .i64 27), .lit (.int .i64 7), .lit (.int .i64 7), .lit (.int .i64 99), .lit (.int .i64 67), .lit (.int .i64 7), .lit (.int .i64 64), .lit (.int .i64 11), .lit (.int .i64 11), .lit (.int .i64 128)]
/-- One of Go's own tables, pinned by name: the form's constant. -/
def laid_unicode_utf8_first : DataW Unit := Go.Pinned.utf8First

/-- 'groundlinglaw23.ModelKnown': WHATEVER THE INPUT: true; the input reads as it did. -/
def modelKnownSpec : ChangeSpec := { name := "modelKnown", fn := fun _ => fun
  | [] => { results := [.lit (.bool true)], args := [] }
  | _ => none }
def modelKnownRow : OpenClaim := { program := "ytinbjfkkpcpokaagreatdoor", sum := "fcead64559962c0b05933a4167ee7c4927ee8342cddc621f57251efa3898a901", func := "groundling/groundlinglaw23.ModelKnown", spec := "modelKnown", inPlace := ["internal/bytealg.IndexByteString", "internal/bytealg.IndexString"], unfollowed := true, recurses := true, named := ["unicode/utf8.first", "unicode/utf8.acceptRanges", "groundling/plans.uses", "internal/bytealg.MaxLen"], apart := false, laid := [("unicode/utf8.acceptRanges", laid_unicode_utf8_acceptRanges), ("groundling/plans.uses", laid_groundling_plans_uses), ("unicode/utf8.first", laid_unicode_utf8_first)] }
def ModelKnownSaid : Prop := modelKnownRow.holds Tryz.pinned (OpenSpec.ofChange modelKnownSpec)

/-- ITS FALSE NEIGHBOUR: 'it returns false'. Refute it at one input. -/
def modelKnownWrong : ChangeSpec := { name := "modelKnown", fn := fun _ => fun
  | [] => { results := [.lit (.bool false)], args := [] }
  | _ => none }
def ModelKnownWrongFalsely : Prop := modelKnownRow.holds Tryz.pinned (OpenSpec.ofChange modelKnownWrong)

/-- 'groundlinglaw23.ModelChecks': WHATEVER THE INPUT: true; the input reads as it did. -/
def modelChecksSpec : ChangeSpec := { name := "modelChecks", fn := fun _ => fun
  | [d1, d2] => { results := [.lit (.bool true)], args := [d1, d2] }
  | _ => none }
def modelChecksRow : OpenClaim := { program := "ytinbjfkkpcpokaagreatdoor", sum := "fcead64559962c0b05933a4167ee7c4927ee8342cddc621f57251efa3898a901", func := "groundling/groundlinglaw23.ModelChecks", spec := "modelChecks", inPlace := ["internal/bytealg.IndexByteString", "internal/bytealg.IndexString"], unfollowed := true, recurses := true, named := ["unicode/utf8.first", "unicode/utf8.acceptRanges", "groundling/plans.uses", "internal/bytealg.MaxLen"], apart := false, laid := [("unicode/utf8.acceptRanges", laid_unicode_utf8_acceptRanges), ("groundling/plans.uses", laid_groundling_plans_uses), ("unicode/utf8.first", laid_unicode_utf8_first)] }
def ModelChecksSaid : Prop := modelChecksRow.holds Tryz.pinned (OpenSpec.ofChange modelChecksSpec)

/-- ITS FALSE NEIGHBOUR: 'it returns false'. Refute it at one input. -/
def modelChecksWrong : ChangeSpec := { name := "modelChecks", fn := fun _ => fun
  | [d1, d2] => { results := [.lit (.bool false)], args := [d1, d2] }
  | _ => none }
def ModelChecksWrongFalsely : Prop := modelChecksRow.holds Tryz.pinned (OpenSpec.ofChange modelChecksWrong)

/-- 'groundlinglaw23.ModelEnds': WHATEVER THE INPUT: true; the input reads as it did. -/
def modelEndsSpec : ChangeSpec := { name := "modelEnds", fn := fun _ => fun
  | [d] => { results := [.lit (.bool true)], args := [d] }
  | _ => none }
def modelEndsRow : OpenClaim := { program := "ytinbjfkkpcpokaagreatdoor", sum := "fcead64559962c0b05933a4167ee7c4927ee8342cddc621f57251efa3898a901", func := "groundling/groundlinglaw23.ModelEnds", spec := "modelEnds", inPlace := ["internal/bytealg.IndexByteString", "internal/bytealg.IndexString"], unfollowed := true, recurses := true, named := ["unicode/utf8.first", "unicode/utf8.acceptRanges", "groundling/plans.uses", "internal/bytealg.MaxLen"], apart := false, laid := [("unicode/utf8.acceptRanges", laid_unicode_utf8_acceptRanges), ("groundling/plans.uses", laid_groundling_plans_uses), ("unicode/utf8.first", laid_unicode_utf8_first)] }
def ModelEndsSaid : Prop := modelEndsRow.holds Tryz.pinned (OpenSpec.ofChange modelEndsSpec)

/-- ITS FALSE NEIGHBOUR: 'it returns false'. Refute it at one input. -/
def modelEndsWrong : ChangeSpec := { name := "modelEnds", fn := fun _ => fun
  | [d] => { results := [.lit (.bool false)], args := [d] }
  | _ => none }
def ModelEndsWrongFalsely : Prop := modelEndsRow.holds Tryz.pinned (OpenSpec.ofChange modelEndsWrong)

/-- 'groundlinglaw23.ModelDoes': WHATEVER THE INPUT: true; the input reads as it did. -/
def modelDoesSpec : ChangeSpec := { name := "modelDoes", fn := fun _ => fun
  | [d1, d2] => { results := [.lit (.bool true)], args := [d1, d2] }
  | _ => none }
def modelDoesRow : OpenClaim := { program := "ytinbjfkkpcpokaagreatdoor", sum := "fcead64559962c0b05933a4167ee7c4927ee8342cddc621f57251efa3898a901", func := "groundling/groundlinglaw23.ModelDoes", spec := "modelDoes", inPlace := ["internal/bytealg.IndexByteString", "internal/bytealg.IndexString"], unfollowed := true, recurses := true, named := ["unicode/utf8.first", "unicode/utf8.acceptRanges", "groundling/plans.uses", "internal/bytealg.MaxLen"], apart := false, laid := [("unicode/utf8.acceptRanges", laid_unicode_utf8_acceptRanges), ("groundling/plans.uses", laid_groundling_plans_uses), ("unicode/utf8.first", laid_unicode_utf8_first)] }
def ModelDoesSaid : Prop := modelDoesRow.holds Tryz.pinned (OpenSpec.ofChange modelDoesSpec)

/-- ITS FALSE NEIGHBOUR: 'it returns false'. Refute it at one input. -/
def modelDoesWrong : ChangeSpec := { name := "modelDoes", fn := fun _ => fun
  | [d1, d2] => { results := [.lit (.bool false)], args := [d1, d2] }
  | _ => none }
def ModelDoesWrongFalsely : Prop := modelDoesRow.holds Tryz.pinned (OpenSpec.ofChange modelDoesWrong)

/-- 'groundlinglaw23.ModelPlays': WHATEVER THE INPUT: true; the input reads as it did. -/
def modelPlaysSpec : ChangeSpec := { name := "modelPlays", fn := fun _ => fun
  | [d1, d2] => { results := [.lit (.bool true)], args := [d1, d2] }
  | _ => none }
def modelPlaysRow : OpenClaim := { program := "ytinbjfkkpcpokaagreatdoor", sum := "fcead64559962c0b05933a4167ee7c4927ee8342cddc621f57251efa3898a901", func := "groundling/groundlinglaw23.ModelPlays", spec := "modelPlays", inPlace := ["internal/bytealg.IndexByteString", "internal/bytealg.IndexString"], unfollowed := true, recurses := true, named := ["unicode/utf8.first", "unicode/utf8.acceptRanges", "groundling/plans.uses", "internal/bytealg.MaxLen"], apart := false, laid := [("unicode/utf8.acceptRanges", laid_unicode_utf8_acceptRanges), ("groundling/plans.uses", laid_groundling_plans_uses), ("unicode/utf8.first", laid_unicode_utf8_first)] }
def ModelPlaysSaid : Prop := modelPlaysRow.holds Tryz.pinned (OpenSpec.ofChange modelPlaysSpec)

/-- ITS FALSE NEIGHBOUR: 'it returns false'. Refute it at one input. -/
def modelPlaysWrong : ChangeSpec := { name := "modelPlays", fn := fun _ => fun
  | [d1, d2] => { results := [.lit (.bool false)], args := [d1, d2] }
  | _ => none }
def ModelPlaysWrongFalsely : Prop := modelPlaysRow.holds Tryz.pinned (OpenSpec.ofChange modelPlaysWrong)

/-- 'groundlinglaw23.ModelKeeps': WHATEVER THE INPUT: true; the input reads as it did. -/
def modelKeepsSpec : ChangeSpec := { name := "modelKeeps", fn := fun _ => fun
  | [d1, d2] => { results := [.lit (.bool true)], args := [d1, d2] }
  | _ => none }
def modelKeepsRow : OpenClaim := { program := "ytinbjfkkpcpokaagreatdoor", sum := "fcead64559962c0b05933a4167ee7c4927ee8342cddc621f57251efa3898a901", func := "groundling/groundlinglaw23.ModelKeeps", spec := "modelKeeps", inPlace := ["internal/bytealg.IndexByteString", "internal/bytealg.IndexString"], unfollowed := true, recurses := true, named := ["unicode/utf8.first", "unicode/utf8.acceptRanges", "groundling/plans.uses", "internal/bytealg.MaxLen"], apart := false, laid := [("unicode/utf8.acceptRanges", laid_unicode_utf8_acceptRanges), ("groundling/plans.uses", laid_groundling_plans_uses), ("unicode/utf8.first", laid_unicode_utf8_first)] }
def ModelKeepsSaid : Prop := modelKeepsRow.holds Tryz.pinned (OpenSpec.ofChange modelKeepsSpec)

/-- ITS FALSE NEIGHBOUR: 'it returns false'. Refute it at one input. -/
def modelKeepsWrong : ChangeSpec := { name := "modelKeeps", fn := fun _ => fun
  | [d1, d2] => { results := [.lit (.bool false)], args := [d1, d2] }
  | _ => none }
def ModelKeepsWrongFalsely : Prop := modelKeepsRow.holds Tryz.pinned (OpenSpec.ofChange modelKeepsWrong)

/-- 'groundlinglaw23.ModelOne': WHATEVER THE INPUT: true; the input reads as it did. -/
def modelOneSpec : ChangeSpec := { name := "modelOne", fn := fun _ => fun
  | [d1, d2] => { results := [.lit (.bool true)], args := [d1, d2] }
  | _ => none }
def modelOneRow : OpenClaim := { program := "ytinbjfkkpcpokaagreatdoor", sum := "fcead64559962c0b05933a4167ee7c4927ee8342cddc621f57251efa3898a901", func := "groundling/groundlinglaw23.ModelOne", spec := "modelOne", inPlace := ["internal/bytealg.IndexByteString", "internal/bytealg.IndexString"], unfollowed := true, recurses := true, named := ["unicode/utf8.first", "unicode/utf8.acceptRanges", "groundling/plans.uses", "internal/bytealg.MaxLen"], apart := false, laid := [("unicode/utf8.acceptRanges", laid_unicode_utf8_acceptRanges), ("groundling/plans.uses", laid_groundling_plans_uses), ("unicode/utf8.first", laid_unicode_utf8_first)] }
def ModelOneSaid : Prop := modelOneRow.holds Tryz.pinned (OpenSpec.ofChange modelOneSpec)

/-- ITS FALSE NEIGHBOUR: 'it returns false'. Refute it at one input. -/
def modelOneWrong : ChangeSpec := { name := "modelOne", fn := fun _ => fun
  | [d1, d2] => { results := [.lit (.bool false)], args := [d1, d2] }
  | _ => none }
def ModelOneWrongFalsely : Prop := modelOneRow.holds Tryz.pinned (OpenSpec.ofChange modelOneWrong)

/-- 'groundlinglaw23.ModelWaits': WHATEVER THE INPUT: true; the input reads as it did. -/
def modelWaitsSpec : ChangeSpec := { name := "modelWaits", fn := fun _ => fun
  | [d1, d2] => { results := [.lit (.bool true)], args := [d1, d2] }
  | _ => none }
def modelWaitsRow : OpenClaim := { program := "ytinbjfkkpcpokaagreatdoor", sum := "fcead64559962c0b05933a4167ee7c4927ee8342cddc621f57251efa3898a901", func := "groundling/groundlinglaw23.ModelWaits", spec := "modelWaits", inPlace := ["internal/bytealg.IndexByteString", "internal/bytealg.IndexString"], unfollowed := true, recurses := true, named := ["unicode/utf8.first", "unicode/utf8.acceptRanges", "groundling/plans.uses", "internal/bytealg.MaxLen"], apart := false, laid := [("unicode/utf8.acceptRanges", laid_unicode_utf8_acceptRanges), ("groundling/plans.uses", laid_groundling_plans_uses), ("unicode/utf8.first", laid_unicode_utf8_first)] }
def ModelWaitsSaid : Prop := modelWaitsRow.holds Tryz.pinned (OpenSpec.ofChange modelWaitsSpec)

/-- ITS FALSE NEIGHBOUR: 'it returns false'. Refute it at one input. -/
def modelWaitsWrong : ChangeSpec := { name := "modelWaits", fn := fun _ => fun
  | [d1, d2] => { results := [.lit (.bool false)], args := [d1, d2] }
  | _ => none }
def ModelWaitsWrongFalsely : Prop := modelWaitsRow.holds Tryz.pinned (OpenSpec.ofChange modelWaitsWrong)

/-- 'groundlinglaw23.ModelTicks': WHATEVER THE INPUT: true; the input reads as it did. -/
def modelTicksSpec : ChangeSpec := { name := "modelTicks", fn := fun _ => fun
  | [d1, d2, d3] => { results := [.lit (.bool true)], args := [d1, d2, d3] }
  | _ => none }
def modelTicksRow : OpenClaim := { program := "ytinbjfkkpcpokaagreatdoor", sum := "fcead64559962c0b05933a4167ee7c4927ee8342cddc621f57251efa3898a901", func := "groundling/groundlinglaw23.ModelTicks", spec := "modelTicks", inPlace := ["internal/bytealg.IndexByteString", "internal/bytealg.IndexString"], unfollowed := true, recurses := true, named := ["unicode/utf8.first", "unicode/utf8.acceptRanges", "groundling/plans.uses", "internal/bytealg.MaxLen"], apart := false, laid := [("unicode/utf8.acceptRanges", laid_unicode_utf8_acceptRanges), ("groundling/plans.uses", laid_groundling_plans_uses), ("unicode/utf8.first", laid_unicode_utf8_first)] }
def ModelTicksSaid : Prop := modelTicksRow.holds Tryz.pinned (OpenSpec.ofChange modelTicksSpec)

/-- ITS FALSE NEIGHBOUR: 'it returns false'. Refute it at one input. -/
def modelTicksWrong : ChangeSpec := { name := "modelTicks", fn := fun _ => fun
  | [d1, d2, d3] => { results := [.lit (.bool false)], args := [d1, d2, d3] }
  | _ => none }
def ModelTicksWrongFalsely : Prop := modelTicksRow.holds Tryz.pinned (OpenSpec.ofChange modelTicksWrong)

/- THE SECOND FORM. 'bulk': how many values and letters a reading holds, each counted each time it is reached (what is shared counts as often as it is met; a slice's spare places count too). A statement '..UptoSaid' is the law's where the arguments, and the package variables that the reading takes, are together of bulk at most 1048576: NARROWER than '..Said'. Prove '..Said' where nothing that the law and all that it calls make is longer than what came in: it says more and counts as full. Else prove '..UptoSaid'. A law counts once. -/
mutual
def uptoBulk {H : Type} : DataW H → Nat
  | .lit (.string bytes) => bytes.length + 1
  | .lit _ => 1
  | .nil => 1
  | .ptr d => uptoBulk d + 1
  | .slice elems spare => uptoBulkAll elems + uptoBulkAll spare + 1
  | .agg parts => uptoBulkAll parts + 1
  | .iface _ d => uptoBulk d + 1
  | .map entries => uptoBulkEntries entries + 1
  | .held _ => 1
def uptoBulkAll {H : Type} : List (DataW H) → Nat
  | [] => 0
  | d :: r => uptoBulk d + uptoBulkAll r
def uptoBulkEntries {H : Type} : List (Lit × DataW H) → Nat
  | [] => 0
  | x :: r => uptoBulkEntry x + uptoBulkEntries r
def uptoBulkEntry {H : Type} : Lit × DataW H → Nat
  | (.string bytes, d) => bytes.length + uptoBulk d + 1
  | (_, d) => uptoBulk d + 1
 end
def uptoSmall : (H : Type) → List (DataW H) → Bool := fun _ ds => decide (uptoBulkAll ds ≤ 1048576)
def OpenSpec.upto (s : _root_.Go.ChangeSpec) : _root_.Go.OpenSpec := { _root_.Go.OpenSpec.ofChange s with cond := some uptoSmall }

/-- 'groundlinglaw23.ModelKnown', WHERE WHAT IT READS IS OF BULK AT MOST 1048576: true; the input reads as it did. -/
def modelKnownUptoRow : OpenClaim := { program := "ytinbjfkkpcpokaagreatdoor", sum := "fcead64559962c0b05933a4167ee7c4927ee8342cddc621f57251efa3898a901", func := "groundling/groundlinglaw23.ModelKnown", spec := "modelKnown", inPlace := ["internal/bytealg.IndexByteString", "internal/bytealg.IndexString"], unfollowed := true, recurses := true, named := ["unicode/utf8.first", "unicode/utf8.acceptRanges", "groundling/plans.uses", "internal/bytealg.MaxLen"], apart := false, laid := [("unicode/utf8.acceptRanges", laid_unicode_utf8_acceptRanges), ("groundling/plans.uses", laid_groundling_plans_uses), ("unicode/utf8.first", laid_unicode_utf8_first)], narrowed := true }
def ModelKnownUptoSaid : Prop := modelKnownUptoRow.holds Tryz.pinned (OpenSpec.upto modelKnownSpec)

/-- 'groundlinglaw23.ModelChecks', WHERE WHAT IT READS IS OF BULK AT MOST 1048576: true; the input reads as it did. -/
def modelChecksUptoRow : OpenClaim := { program := "ytinbjfkkpcpokaagreatdoor", sum := "fcead64559962c0b05933a4167ee7c4927ee8342cddc621f57251efa3898a901", func := "groundling/groundlinglaw23.ModelChecks", spec := "modelChecks", inPlace := ["internal/bytealg.IndexByteString", "internal/bytealg.IndexString"], unfollowed := true, recurses := true, named := ["unicode/utf8.first", "unicode/utf8.acceptRanges", "groundling/plans.uses", "internal/bytealg.MaxLen"], apart := false, laid := [("unicode/utf8.acceptRanges", laid_unicode_utf8_acceptRanges), ("groundling/plans.uses", laid_groundling_plans_uses), ("unicode/utf8.first", laid_unicode_utf8_first)], narrowed := true }
def ModelChecksUptoSaid : Prop := modelChecksUptoRow.holds Tryz.pinned (OpenSpec.upto modelChecksSpec)

/-- 'groundlinglaw23.ModelEnds', WHERE WHAT IT READS IS OF BULK AT MOST 1048576: true; the input reads as it did. -/
def modelEndsUptoRow : OpenClaim := { program := "ytinbjfkkpcpokaagreatdoor", sum := "fcead64559962c0b05933a4167ee7c4927ee8342cddc621f57251efa3898a901", func := "groundling/groundlinglaw23.ModelEnds", spec := "modelEnds", inPlace := ["internal/bytealg.IndexByteString", "internal/bytealg.IndexString"], unfollowed := true, recurses := true, named := ["unicode/utf8.first", "unicode/utf8.acceptRanges", "groundling/plans.uses", "internal/bytealg.MaxLen"], apart := false, laid := [("unicode/utf8.acceptRanges", laid_unicode_utf8_acceptRanges), ("groundling/plans.uses", laid_groundling_plans_uses), ("unicode/utf8.first", laid_unicode_utf8_first)], narrowed := true }
def ModelEndsUptoSaid : Prop := modelEndsUptoRow.holds Tryz.pinned (OpenSpec.upto modelEndsSpec)

/-- 'groundlinglaw23.ModelDoes', WHERE WHAT IT READS IS OF BULK AT MOST 1048576: true; the input reads as it did. -/
def modelDoesUptoRow : OpenClaim := { program := "ytinbjfkkpcpokaagreatdoor", sum := "fcead64559962c0b05933a4167ee7c4927ee8342cddc621f57251efa3898a901", func := "groundling/groundlinglaw23.ModelDoes", spec := "modelDoes", inPlace := ["internal/bytealg.IndexByteString", "internal/bytealg.IndexString"], unfollowed := true, recurses := true, named := ["unicode/utf8.first", "unicode/utf8.acceptRanges", "groundling/plans.uses", "internal/bytealg.MaxLen"], apart := false, laid := [("unicode/utf8.acceptRanges", laid_unicode_utf8_acceptRanges), ("groundling/plans.uses", laid_groundling_plans_uses), ("unicode/utf8.first", laid_unicode_utf8_first)], narrowed := true }
def ModelDoesUptoSaid : Prop := modelDoesUptoRow.holds Tryz.pinned (OpenSpec.upto modelDoesSpec)

/-- 'groundlinglaw23.ModelPlays', WHERE WHAT IT READS IS OF BULK AT MOST 1048576: true; the input reads as it did. -/
def modelPlaysUptoRow : OpenClaim := { program := "ytinbjfkkpcpokaagreatdoor", sum := "fcead64559962c0b05933a4167ee7c4927ee8342cddc621f57251efa3898a901", func := "groundling/groundlinglaw23.ModelPlays", spec := "modelPlays", inPlace := ["internal/bytealg.IndexByteString", "internal/bytealg.IndexString"], unfollowed := true, recurses := true, named := ["unicode/utf8.first", "unicode/utf8.acceptRanges", "groundling/plans.uses", "internal/bytealg.MaxLen"], apart := false, laid := [("unicode/utf8.acceptRanges", laid_unicode_utf8_acceptRanges), ("groundling/plans.uses", laid_groundling_plans_uses), ("unicode/utf8.first", laid_unicode_utf8_first)], narrowed := true }
def ModelPlaysUptoSaid : Prop := modelPlaysUptoRow.holds Tryz.pinned (OpenSpec.upto modelPlaysSpec)

/-- 'groundlinglaw23.ModelKeeps', WHERE WHAT IT READS IS OF BULK AT MOST 1048576: true; the input reads as it did. -/
def modelKeepsUptoRow : OpenClaim := { program := "ytinbjfkkpcpokaagreatdoor", sum := "fcead64559962c0b05933a4167ee7c4927ee8342cddc621f57251efa3898a901", func := "groundling/groundlinglaw23.ModelKeeps", spec := "modelKeeps", inPlace := ["internal/bytealg.IndexByteString", "internal/bytealg.IndexString"], unfollowed := true, recurses := true, named := ["unicode/utf8.first", "unicode/utf8.acceptRanges", "groundling/plans.uses", "internal/bytealg.MaxLen"], apart := false, laid := [("unicode/utf8.acceptRanges", laid_unicode_utf8_acceptRanges), ("groundling/plans.uses", laid_groundling_plans_uses), ("unicode/utf8.first", laid_unicode_utf8_first)], narrowed := true }
def ModelKeepsUptoSaid : Prop := modelKeepsUptoRow.holds Tryz.pinned (OpenSpec.upto modelKeepsSpec)

/-- 'groundlinglaw23.ModelOne', WHERE WHAT IT READS IS OF BULK AT MOST 1048576: true; the input reads as it did. -/
def modelOneUptoRow : OpenClaim := { program := "ytinbjfkkpcpokaagreatdoor", sum := "fcead64559962c0b05933a4167ee7c4927ee8342cddc621f57251efa3898a901", func := "groundling/groundlinglaw23.ModelOne", spec := "modelOne", inPlace := ["internal/bytealg.IndexByteString", "internal/bytealg.IndexString"], unfollowed := true, recurses := true, named := ["unicode/utf8.first", "unicode/utf8.acceptRanges", "groundling/plans.uses", "internal/bytealg.MaxLen"], apart := false, laid := [("unicode/utf8.acceptRanges", laid_unicode_utf8_acceptRanges), ("groundling/plans.uses", laid_groundling_plans_uses), ("unicode/utf8.first", laid_unicode_utf8_first)], narrowed := true }
def ModelOneUptoSaid : Prop := modelOneUptoRow.holds Tryz.pinned (OpenSpec.upto modelOneSpec)

/-- 'groundlinglaw23.ModelWaits', WHERE WHAT IT READS IS OF BULK AT MOST 1048576: true; the input reads as it did. -/
def modelWaitsUptoRow : OpenClaim := { program := "ytinbjfkkpcpokaagreatdoor", sum := "fcead64559962c0b05933a4167ee7c4927ee8342cddc621f57251efa3898a901", func := "groundling/groundlinglaw23.ModelWaits", spec := "modelWaits", inPlace := ["internal/bytealg.IndexByteString", "internal/bytealg.IndexString"], unfollowed := true, recurses := true, named := ["unicode/utf8.first", "unicode/utf8.acceptRanges", "groundling/plans.uses", "internal/bytealg.MaxLen"], apart := false, laid := [("unicode/utf8.acceptRanges", laid_unicode_utf8_acceptRanges), ("groundling/plans.uses", laid_groundling_plans_uses), ("unicode/utf8.first", laid_unicode_utf8_first)], narrowed := true }
def ModelWaitsUptoSaid : Prop := modelWaitsUptoRow.holds Tryz.pinned (OpenSpec.upto modelWaitsSpec)

/-- 'groundlinglaw23.ModelTicks', WHERE WHAT IT READS IS OF BULK AT MOST 1048576: true; the input reads as it did. -/
def modelTicksUptoRow : OpenClaim := { program := "ytinbjfkkpcpokaagreatdoor", sum := "fcead64559962c0b05933a4167ee7c4927ee8342cddc621f57251efa3898a901", func := "groundling/groundlinglaw23.ModelTicks", spec := "modelTicks", inPlace := ["internal/bytealg.IndexByteString", "internal/bytealg.IndexString"], unfollowed := true, recurses := true, named := ["unicode/utf8.first", "unicode/utf8.acceptRanges", "groundling/plans.uses", "internal/bytealg.MaxLen"], apart := false, laid := [("unicode/utf8.acceptRanges", laid_unicode_utf8_acceptRanges), ("groundling/plans.uses", laid_groundling_plans_uses), ("unicode/utf8.first", laid_unicode_utf8_first)], narrowed := true }
def ModelTicksUptoSaid : Prop := modelTicksUptoRow.holds Tryz.pinned (OpenSpec.upto modelTicksSpec)

end Rows
end Go.Proofs.YtinbjfkkpcpokaaGreatDoor
