/-
  DERIVED. GIVEN WITH THE SEED: THE CARDS: each row of YtlckmjiioohcmaaGreatDoorRows.lean that lists a variable, with what it lists TIED to the program's text (the seventh form; the later family's looks); each row that meets fmt, with fmt's text TOLD by the authors' own Lean function (tested against real Go, not proved from fmt's source: count such statements apart). THE CARD IS WHAT COUNTS. Prove the row's statement (the work); the ties are given (YtlckmjiioohcmaaGreatDoorTie.lean); close each card by the builder's one call (the guide's Derived/Test/ToyasCard.lean, 'card_holds'). Laid BY PROGRAM, IN A SANDBOX (cutbox-door.mjs). By AI agents, Wed Nov 11 2026. No macro, syntax, notation, axiom, sorry.
-/
import Derived.Test.YtlckmjiioohcmaaGreatDoorRows
import GoSem.ClaimSeven
namespace Go.Proofs.YtlckmjiioohcmaaGreatDoor
namespace Rows

/-- THE TIED CARD OF 'groundlinglaw23.ModelPlays'. -/
def modelPlaysCard : Claim7 := { stood := { row := modelPlaysRow, standIns := [], harness := (true, "486bbda37e7f80f939406099335bf506629a4b7c4beeec0ad8a9d32d43b2a1f4"), looks := false }, kinds := [], alts := [], laidByText := true, laidKinds := [.data, .data, .pinned], laidTests := true, laidLooks := .later }
def ModelPlaysCardSaid : Prop := Claim7.holds Tryz.pinned (.plain (OpenSpec.ofChange modelPlaysSpec)) modelPlaysCard

/-- THE TIED CARD OF 'groundlinglaw23.ModelDoes'. -/
def modelDoesCard : Claim7 := { stood := { row := modelDoesRow, standIns := [], harness := (true, "486bbda37e7f80f939406099335bf506629a4b7c4beeec0ad8a9d32d43b2a1f4"), looks := false }, kinds := [], alts := [], laidByText := true, laidKinds := [.data, .data, .pinned], laidTests := true, laidLooks := .later }
def ModelDoesCardSaid : Prop := Claim7.holds Tryz.pinned (.plain (OpenSpec.ofChange modelDoesSpec)) modelDoesCard

/-- THE TIED CARD OF 'groundlinglaw32.AuditNeeded'. -/
def auditNeededCard : Claim7 := { stood := { row := auditNeededRow, standIns := [], harness := (true, "486bbda37e7f80f939406099335bf506629a4b7c4beeec0ad8a9d32d43b2a1f4"), looks := false }, kinds := [], alts := [], laidByText := true, laidKinds := [.data, .data, .pinned], laidTests := true, laidLooks := .later }
def AuditNeededCardSaid : Prop := Claim7.holds Tryz.pinned (.plain (OpenSpec.ofChange auditNeededSpec)) auditNeededCard

/-- THE TIED CARD OF 'groundlinglaw32.AuditSound'. -/
def auditSoundCard : Claim7 := { stood := { row := auditSoundRow, standIns := [], harness := (true, "486bbda37e7f80f939406099335bf506629a4b7c4beeec0ad8a9d32d43b2a1f4"), looks := false }, kinds := [], alts := [], laidByText := true, laidKinds := [.data, .data, .pinned], laidTests := true, laidLooks := .later }
def AuditSoundCardSaid : Prop := Claim7.holds Tryz.pinned (.plain (OpenSpec.ofChange auditSoundSpec)) auditSoundCard

/-- THE SECOND FORM's CARD OF 'groundlinglaw23.ModelPlays'. -/
def modelPlaysUptoCard : Claim7 := { stood := { row := modelPlaysUptoRow, standIns := [], harness := (true, "486bbda37e7f80f939406099335bf506629a4b7c4beeec0ad8a9d32d43b2a1f4"), looks := false }, kinds := [], alts := [], laidByText := true, laidKinds := [.data, .data, .pinned], laidTests := true, laidLooks := .later }
def ModelPlaysUptoCardSaid : Prop := Claim7.holds Tryz.pinned (.plain (OpenSpec.upto modelPlaysSpec)) modelPlaysUptoCard

/-- THE SECOND FORM's CARD OF 'groundlinglaw23.ModelDoes'. -/
def modelDoesUptoCard : Claim7 := { stood := { row := modelDoesUptoRow, standIns := [], harness := (true, "486bbda37e7f80f939406099335bf506629a4b7c4beeec0ad8a9d32d43b2a1f4"), looks := false }, kinds := [], alts := [], laidByText := true, laidKinds := [.data, .data, .pinned], laidTests := true, laidLooks := .later }
def ModelDoesUptoCardSaid : Prop := Claim7.holds Tryz.pinned (.plain (OpenSpec.upto modelDoesSpec)) modelDoesUptoCard

/-- THE SECOND FORM's CARD OF 'groundlinglaw32.AuditNeeded'. -/
def auditNeededUptoCard : Claim7 := { stood := { row := auditNeededUptoRow, standIns := [], harness := (true, "486bbda37e7f80f939406099335bf506629a4b7c4beeec0ad8a9d32d43b2a1f4"), looks := false }, kinds := [], alts := [], laidByText := true, laidKinds := [.data, .data, .pinned], laidTests := true, laidLooks := .later }
def AuditNeededUptoCardSaid : Prop := Claim7.holds Tryz.pinned (.plain (OpenSpec.upto auditNeededSpec)) auditNeededUptoCard

/-- THE SECOND FORM's CARD OF 'groundlinglaw32.AuditSound'. -/
def auditSoundUptoCard : Claim7 := { stood := { row := auditSoundUptoRow, standIns := [], harness := (true, "486bbda37e7f80f939406099335bf506629a4b7c4beeec0ad8a9d32d43b2a1f4"), looks := false }, kinds := [], alts := [], laidByText := true, laidKinds := [.data, .data, .pinned], laidTests := true, laidLooks := .later }
def AuditSoundUptoCardSaid : Prop := Claim7.holds Tryz.pinned (.plain (OpenSpec.upto auditSoundSpec)) auditSoundUptoCard
end Rows
end Go.Proofs.YtlckmjiioohcmaaGreatDoor
