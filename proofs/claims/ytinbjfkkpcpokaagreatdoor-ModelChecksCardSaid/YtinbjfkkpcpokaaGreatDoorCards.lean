/-
  DERIVED. GIVEN WITH THE SEED: THE CARDS: each row of YtinbjfkkpcpokaaGreatDoorRows.lean that lists a variable, with what it lists TIED to the program's text (the seventh form; the later family's looks); each row that meets fmt, with fmt's text TOLD by the authors' own Lean function (tested against real Go, not proved from fmt's source: count such statements apart). THE CARD IS WHAT COUNTS. Prove the row's statement (the work); the ties are given (YtinbjfkkpcpokaaGreatDoorTie.lean); close each card by the builder's one call (the guide's Derived/Test/ToyasCard.lean, 'card_holds'). Laid BY PROGRAM, IN A SANDBOX (cutbox-door.mjs). By AI agents, Wed Nov 11 2026. No macro, syntax, notation, axiom, sorry.
-/
import Derived.Test.YtinbjfkkpcpokaaGreatDoorRows
import GoSem.ClaimSeven
namespace Go.Proofs.YtinbjfkkpcpokaaGreatDoor
namespace Rows

/-- THE TIED CARD OF 'groundlinglaw23.ModelKnown'. -/
def modelKnownCard : Claim7 := { stood := { row := modelKnownRow, standIns := [], harness := (true, "a85d5c43c43ef8bd8fecdb8fb058f3d00f88746131438df69cf1e067f935668a"), looks := false }, kinds := [], alts := [], laidByText := true, laidKinds := [.data, .data, .pinned], laidTests := true, laidLooks := .later }
def ModelKnownCardSaid : Prop := Claim7.holds Tryz.pinned (.plain (OpenSpec.ofChange modelKnownSpec)) modelKnownCard

/-- THE TIED CARD OF 'groundlinglaw23.ModelChecks'. -/
def modelChecksCard : Claim7 := { stood := { row := modelChecksRow, standIns := [], harness := (true, "a85d5c43c43ef8bd8fecdb8fb058f3d00f88746131438df69cf1e067f935668a"), looks := false }, kinds := [], alts := [], laidByText := true, laidKinds := [.data, .data, .pinned], laidTests := true, laidLooks := .later }
def ModelChecksCardSaid : Prop := Claim7.holds Tryz.pinned (.plain (OpenSpec.ofChange modelChecksSpec)) modelChecksCard

/-- THE TIED CARD OF 'groundlinglaw23.ModelEnds'. -/
def modelEndsCard : Claim7 := { stood := { row := modelEndsRow, standIns := [], harness := (true, "a85d5c43c43ef8bd8fecdb8fb058f3d00f88746131438df69cf1e067f935668a"), looks := false }, kinds := [], alts := [], laidByText := true, laidKinds := [.data, .data, .pinned], laidTests := true, laidLooks := .later }
def ModelEndsCardSaid : Prop := Claim7.holds Tryz.pinned (.plain (OpenSpec.ofChange modelEndsSpec)) modelEndsCard

/-- THE TIED CARD OF 'groundlinglaw23.ModelDoes'. -/
def modelDoesCard : Claim7 := { stood := { row := modelDoesRow, standIns := [], harness := (true, "a85d5c43c43ef8bd8fecdb8fb058f3d00f88746131438df69cf1e067f935668a"), looks := false }, kinds := [], alts := [], laidByText := true, laidKinds := [.data, .data, .pinned], laidTests := true, laidLooks := .later }
def ModelDoesCardSaid : Prop := Claim7.holds Tryz.pinned (.plain (OpenSpec.ofChange modelDoesSpec)) modelDoesCard

/-- THE TIED CARD OF 'groundlinglaw23.ModelPlays'. -/
def modelPlaysCard : Claim7 := { stood := { row := modelPlaysRow, standIns := [], harness := (true, "a85d5c43c43ef8bd8fecdb8fb058f3d00f88746131438df69cf1e067f935668a"), looks := false }, kinds := [], alts := [], laidByText := true, laidKinds := [.data, .data, .pinned], laidTests := true, laidLooks := .later }
def ModelPlaysCardSaid : Prop := Claim7.holds Tryz.pinned (.plain (OpenSpec.ofChange modelPlaysSpec)) modelPlaysCard

/-- THE TIED CARD OF 'groundlinglaw23.ModelKeeps'. -/
def modelKeepsCard : Claim7 := { stood := { row := modelKeepsRow, standIns := [], harness := (true, "a85d5c43c43ef8bd8fecdb8fb058f3d00f88746131438df69cf1e067f935668a"), looks := false }, kinds := [], alts := [], laidByText := true, laidKinds := [.data, .data, .pinned], laidTests := true, laidLooks := .later }
def ModelKeepsCardSaid : Prop := Claim7.holds Tryz.pinned (.plain (OpenSpec.ofChange modelKeepsSpec)) modelKeepsCard

/-- THE TIED CARD OF 'groundlinglaw23.ModelOne'. -/
def modelOneCard : Claim7 := { stood := { row := modelOneRow, standIns := [], harness := (true, "a85d5c43c43ef8bd8fecdb8fb058f3d00f88746131438df69cf1e067f935668a"), looks := false }, kinds := [], alts := [], laidByText := true, laidKinds := [.data, .data, .pinned], laidTests := true, laidLooks := .later }
def ModelOneCardSaid : Prop := Claim7.holds Tryz.pinned (.plain (OpenSpec.ofChange modelOneSpec)) modelOneCard

/-- THE TIED CARD OF 'groundlinglaw23.ModelWaits'. -/
def modelWaitsCard : Claim7 := { stood := { row := modelWaitsRow, standIns := [], harness := (true, "a85d5c43c43ef8bd8fecdb8fb058f3d00f88746131438df69cf1e067f935668a"), looks := false }, kinds := [], alts := [], laidByText := true, laidKinds := [.data, .data, .pinned], laidTests := true, laidLooks := .later }
def ModelWaitsCardSaid : Prop := Claim7.holds Tryz.pinned (.plain (OpenSpec.ofChange modelWaitsSpec)) modelWaitsCard

/-- THE TIED CARD OF 'groundlinglaw23.ModelTicks'. -/
def modelTicksCard : Claim7 := { stood := { row := modelTicksRow, standIns := [], harness := (true, "a85d5c43c43ef8bd8fecdb8fb058f3d00f88746131438df69cf1e067f935668a"), looks := false }, kinds := [], alts := [], laidByText := true, laidKinds := [.data, .data, .pinned], laidTests := true, laidLooks := .later }
def ModelTicksCardSaid : Prop := Claim7.holds Tryz.pinned (.plain (OpenSpec.ofChange modelTicksSpec)) modelTicksCard

/-- THE SECOND FORM's CARD OF 'groundlinglaw23.ModelKnown'. -/
def modelKnownUptoCard : Claim7 := { stood := { row := modelKnownUptoRow, standIns := [], harness := (true, "a85d5c43c43ef8bd8fecdb8fb058f3d00f88746131438df69cf1e067f935668a"), looks := false }, kinds := [], alts := [], laidByText := true, laidKinds := [.data, .data, .pinned], laidTests := true, laidLooks := .later }
def ModelKnownUptoCardSaid : Prop := Claim7.holds Tryz.pinned (.plain (OpenSpec.upto modelKnownSpec)) modelKnownUptoCard

/-- THE SECOND FORM's CARD OF 'groundlinglaw23.ModelChecks'. -/
def modelChecksUptoCard : Claim7 := { stood := { row := modelChecksUptoRow, standIns := [], harness := (true, "a85d5c43c43ef8bd8fecdb8fb058f3d00f88746131438df69cf1e067f935668a"), looks := false }, kinds := [], alts := [], laidByText := true, laidKinds := [.data, .data, .pinned], laidTests := true, laidLooks := .later }
def ModelChecksUptoCardSaid : Prop := Claim7.holds Tryz.pinned (.plain (OpenSpec.upto modelChecksSpec)) modelChecksUptoCard

/-- THE SECOND FORM's CARD OF 'groundlinglaw23.ModelEnds'. -/
def modelEndsUptoCard : Claim7 := { stood := { row := modelEndsUptoRow, standIns := [], harness := (true, "a85d5c43c43ef8bd8fecdb8fb058f3d00f88746131438df69cf1e067f935668a"), looks := false }, kinds := [], alts := [], laidByText := true, laidKinds := [.data, .data, .pinned], laidTests := true, laidLooks := .later }
def ModelEndsUptoCardSaid : Prop := Claim7.holds Tryz.pinned (.plain (OpenSpec.upto modelEndsSpec)) modelEndsUptoCard

/-- THE SECOND FORM's CARD OF 'groundlinglaw23.ModelDoes'. -/
def modelDoesUptoCard : Claim7 := { stood := { row := modelDoesUptoRow, standIns := [], harness := (true, "a85d5c43c43ef8bd8fecdb8fb058f3d00f88746131438df69cf1e067f935668a"), looks := false }, kinds := [], alts := [], laidByText := true, laidKinds := [.data, .data, .pinned], laidTests := true, laidLooks := .later }
def ModelDoesUptoCardSaid : Prop := Claim7.holds Tryz.pinned (.plain (OpenSpec.upto modelDoesSpec)) modelDoesUptoCard

/-- THE SECOND FORM's CARD OF 'groundlinglaw23.ModelPlays'. -/
def modelPlaysUptoCard : Claim7 := { stood := { row := modelPlaysUptoRow, standIns := [], harness := (true, "a85d5c43c43ef8bd8fecdb8fb058f3d00f88746131438df69cf1e067f935668a"), looks := false }, kinds := [], alts := [], laidByText := true, laidKinds := [.data, .data, .pinned], laidTests := true, laidLooks := .later }
def ModelPlaysUptoCardSaid : Prop := Claim7.holds Tryz.pinned (.plain (OpenSpec.upto modelPlaysSpec)) modelPlaysUptoCard

/-- THE SECOND FORM's CARD OF 'groundlinglaw23.ModelKeeps'. -/
def modelKeepsUptoCard : Claim7 := { stood := { row := modelKeepsUptoRow, standIns := [], harness := (true, "a85d5c43c43ef8bd8fecdb8fb058f3d00f88746131438df69cf1e067f935668a"), looks := false }, kinds := [], alts := [], laidByText := true, laidKinds := [.data, .data, .pinned], laidTests := true, laidLooks := .later }
def ModelKeepsUptoCardSaid : Prop := Claim7.holds Tryz.pinned (.plain (OpenSpec.upto modelKeepsSpec)) modelKeepsUptoCard

/-- THE SECOND FORM's CARD OF 'groundlinglaw23.ModelOne'. -/
def modelOneUptoCard : Claim7 := { stood := { row := modelOneUptoRow, standIns := [], harness := (true, "a85d5c43c43ef8bd8fecdb8fb058f3d00f88746131438df69cf1e067f935668a"), looks := false }, kinds := [], alts := [], laidByText := true, laidKinds := [.data, .data, .pinned], laidTests := true, laidLooks := .later }
def ModelOneUptoCardSaid : Prop := Claim7.holds Tryz.pinned (.plain (OpenSpec.upto modelOneSpec)) modelOneUptoCard

/-- THE SECOND FORM's CARD OF 'groundlinglaw23.ModelWaits'. -/
def modelWaitsUptoCard : Claim7 := { stood := { row := modelWaitsUptoRow, standIns := [], harness := (true, "a85d5c43c43ef8bd8fecdb8fb058f3d00f88746131438df69cf1e067f935668a"), looks := false }, kinds := [], alts := [], laidByText := true, laidKinds := [.data, .data, .pinned], laidTests := true, laidLooks := .later }
def ModelWaitsUptoCardSaid : Prop := Claim7.holds Tryz.pinned (.plain (OpenSpec.upto modelWaitsSpec)) modelWaitsUptoCard

/-- THE SECOND FORM's CARD OF 'groundlinglaw23.ModelTicks'. -/
def modelTicksUptoCard : Claim7 := { stood := { row := modelTicksUptoRow, standIns := [], harness := (true, "a85d5c43c43ef8bd8fecdb8fb058f3d00f88746131438df69cf1e067f935668a"), looks := false }, kinds := [], alts := [], laidByText := true, laidKinds := [.data, .data, .pinned], laidTests := true, laidLooks := .later }
def ModelTicksUptoCardSaid : Prop := Claim7.holds Tryz.pinned (.plain (OpenSpec.upto modelTicksSpec)) modelTicksUptoCard
end Rows
end Go.Proofs.YtinbjfkkpcpokaaGreatDoor
