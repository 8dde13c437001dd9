/-
  DERIVED. GIVEN WITH THE SEED: THE CARDS: each row of YtcomfhigbjkoeaaGreatDoorRows.lean that lists a variable, with what it lists TIED to the program's text (the seventh form; the later family's looks); each row that meets fmt, with fmt's text TOLD by the authors' own Lean function (tested against real Go, not proved from fmt's source: count such statements apart). THE CARD IS WHAT COUNTS. Prove the row's statement (the work); the ties are given (YtcomfhigbjkoeaaGreatDoorTie.lean); close each card by the builder's one call (the guide's Derived/Test/ToyasCard.lean, 'card_holds'). Laid BY PROGRAM, IN A SANDBOX (cutbox-door.mjs). By AI agents, Wed Nov 11 2026. No macro, syntax, notation, axiom, sorry.
-/
import Derived.Test.YtcomfhigbjkoeaaGreatDoorRows
import GoSem.ClaimSeven
namespace Go.Proofs.YtcomfhigbjkoeaaGreatDoor
namespace Rows

/-- THE TIED CARD OF 'groundlinglaw32.AuditChecks'. -/
def auditChecksCard : Claim7 := { stood := { row := auditChecksRow, standIns := [], harness := (true, "f53c35da5abb6571106dfae3663f066bab674503a348454619e19db17de00a85"), looks := false }, kinds := [], alts := [], laidByText := true, laidKinds := [.data, .pinned], laidTests := true, laidLooks := .later }
def AuditChecksCardSaid : Prop := Claim7.holds Tryz.pinned (.plain (OpenSpec.ofChange auditChecksSpec)) auditChecksCard

/-- THE TIED CARD OF 'groundlinglaw32.AuditSteps'. -/
def auditStepsCard : Claim7 := { stood := { row := auditStepsRow, standIns := [], harness := (true, "f53c35da5abb6571106dfae3663f066bab674503a348454619e19db17de00a85"), looks := false }, kinds := [], alts := [], laidByText := true, laidKinds := [.data, .pinned], laidTests := true, laidLooks := .later }
def AuditStepsCardSaid : Prop := Claim7.holds Tryz.pinned (.plain (OpenSpec.ofChange auditStepsSpec)) auditStepsCard

/-- THE SECOND FORM's CARD OF 'groundlinglaw32.AuditChecks'. -/
def auditChecksUptoCard : Claim7 := { stood := { row := auditChecksUptoRow, standIns := [], harness := (true, "f53c35da5abb6571106dfae3663f066bab674503a348454619e19db17de00a85"), looks := false }, kinds := [], alts := [], laidByText := true, laidKinds := [.data, .pinned], laidTests := true, laidLooks := .later }
def AuditChecksUptoCardSaid : Prop := Claim7.holds Tryz.pinned (.plain (OpenSpec.upto auditChecksSpec)) auditChecksUptoCard

/-- THE SECOND FORM's CARD OF 'groundlinglaw32.AuditSteps'. -/
def auditStepsUptoCard : Claim7 := { stood := { row := auditStepsUptoRow, standIns := [], harness := (true, "f53c35da5abb6571106dfae3663f066bab674503a348454619e19db17de00a85"), looks := false }, kinds := [], alts := [], laidByText := true, laidKinds := [.data, .pinned], laidTests := true, laidLooks := .later }
def AuditStepsUptoCardSaid : Prop := Claim7.holds Tryz.pinned (.plain (OpenSpec.upto auditStepsSpec)) auditStepsUptoCard
end Rows
end Go.Proofs.YtcomfhigbjkoeaaGreatDoor
