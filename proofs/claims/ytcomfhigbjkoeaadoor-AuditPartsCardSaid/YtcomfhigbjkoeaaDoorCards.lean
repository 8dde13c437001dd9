/-
  DERIVED. GIVEN WITH THE SEED: THE CARDS: each row of YtcomfhigbjkoeaaDoorRows.lean that lists a variable, with what it lists TIED to the program's text (the seventh form; the later family's looks); each row that meets fmt, with fmt's text TOLD by the authors' own Lean function (tested against real Go, not proved from fmt's source: count such statements apart). THE CARD IS WHAT COUNTS. Prove the row's statement (the work); the ties are given (YtcomfhigbjkoeaaDoorTie.lean); close each card by the builder's one call (the guide's Derived/Test/ToyasCard.lean, 'card_holds'). Laid BY PROGRAM, IN A SANDBOX (cutbox-door.mjs). By AI agents, Wed Nov 11 2026. No macro, syntax, notation, axiom, sorry.
-/
import Derived.Test.YtcomfhigbjkoeaaDoorRows
import GoSem.ClaimSeven
namespace Go.Proofs.YtcomfhigbjkoeaaDoor
namespace Rows

/-- THE TIED CARD OF 'groundlinglaw32.AuditOne'. -/
def auditOneCard : Claim7 := { stood := { row := auditOneRow, standIns := [], harness := (true, "f0448b7ab04917f4ab177c184aaaa51112e1c08a44682a120729823579497661"), looks := false }, kinds := [], alts := [], laidByText := true, laidKinds := [.data, .pinned], laidTests := true, laidLooks := .later }
def AuditOneCardSaid : Prop := Claim7.holds Tryd.pinned (.plain (OpenSpec.ofChange auditOneSpec)) auditOneCard

/-- THE TIED CARD OF 'groundlinglaw32.AuditTimes'. -/
def auditTimesCard : Claim7 := { stood := { row := auditTimesRow, standIns := [], harness := (true, "f0448b7ab04917f4ab177c184aaaa51112e1c08a44682a120729823579497661"), looks := false }, kinds := [], alts := [], laidByText := true, laidKinds := [.data, .pinned], laidTests := true, laidLooks := .later }
def AuditTimesCardSaid : Prop := Claim7.holds Tryd.pinned (.plain (OpenSpec.ofChange auditTimesSpec)) auditTimesCard

/-- THE TIED CARD OF 'groundlinglaw32.AuditNames'. -/
def auditNamesCard : Claim7 := { stood := { row := auditNamesRow, standIns := [], harness := (true, "f0448b7ab04917f4ab177c184aaaa51112e1c08a44682a120729823579497661"), looks := false }, kinds := [], alts := [], laidByText := true, laidKinds := [.data, .pinned], laidTests := true, laidLooks := .later }
def AuditNamesCardSaid : Prop := Claim7.holds Tryd.pinned (.plain (OpenSpec.ofChange auditNamesSpec)) auditNamesCard

/-- THE TIED CARD OF 'groundlinglaw32.AuditParts'. -/
def auditPartsCard : Claim7 := { stood := { row := auditPartsRow, standIns := [], harness := (true, "f0448b7ab04917f4ab177c184aaaa51112e1c08a44682a120729823579497661"), looks := false }, kinds := [], alts := [], laidByText := true, laidKinds := [.data, .pinned], laidTests := true, laidLooks := .later }
def AuditPartsCardSaid : Prop := Claim7.holds Tryd.pinned (.plain (OpenSpec.ofChange auditPartsSpec)) auditPartsCard

/-- THE SECOND FORM's CARD OF 'groundlinglaw32.AuditOne'. -/
def auditOneUptoCard : Claim7 := { stood := { row := auditOneUptoRow, standIns := [], harness := (true, "f0448b7ab04917f4ab177c184aaaa51112e1c08a44682a120729823579497661"), looks := false }, kinds := [], alts := [], laidByText := true, laidKinds := [.data, .pinned], laidTests := true, laidLooks := .later }
def AuditOneUptoCardSaid : Prop := Claim7.holds Tryd.pinned (.plain (OpenSpec.upto auditOneSpec)) auditOneUptoCard

/-- THE SECOND FORM's CARD OF 'groundlinglaw32.AuditTimes'. -/
def auditTimesUptoCard : Claim7 := { stood := { row := auditTimesUptoRow, standIns := [], harness := (true, "f0448b7ab04917f4ab177c184aaaa51112e1c08a44682a120729823579497661"), looks := false }, kinds := [], alts := [], laidByText := true, laidKinds := [.data, .pinned], laidTests := true, laidLooks := .later }
def AuditTimesUptoCardSaid : Prop := Claim7.holds Tryd.pinned (.plain (OpenSpec.upto auditTimesSpec)) auditTimesUptoCard

/-- THE SECOND FORM's CARD OF 'groundlinglaw32.AuditNames'. -/
def auditNamesUptoCard : Claim7 := { stood := { row := auditNamesUptoRow, standIns := [], harness := (true, "f0448b7ab04917f4ab177c184aaaa51112e1c08a44682a120729823579497661"), looks := false }, kinds := [], alts := [], laidByText := true, laidKinds := [.data, .pinned], laidTests := true, laidLooks := .later }
def AuditNamesUptoCardSaid : Prop := Claim7.holds Tryd.pinned (.plain (OpenSpec.upto auditNamesSpec)) auditNamesUptoCard

/-- THE SECOND FORM's CARD OF 'groundlinglaw32.AuditParts'. -/
def auditPartsUptoCard : Claim7 := { stood := { row := auditPartsUptoRow, standIns := [], harness := (true, "f0448b7ab04917f4ab177c184aaaa51112e1c08a44682a120729823579497661"), looks := false }, kinds := [], alts := [], laidByText := true, laidKinds := [.data, .pinned], laidTests := true, laidLooks := .later }
def AuditPartsUptoCardSaid : Prop := Claim7.holds Tryd.pinned (.plain (OpenSpec.upto auditPartsSpec)) auditPartsUptoCard
end Rows
end Go.Proofs.YtcomfhigbjkoeaaDoor
