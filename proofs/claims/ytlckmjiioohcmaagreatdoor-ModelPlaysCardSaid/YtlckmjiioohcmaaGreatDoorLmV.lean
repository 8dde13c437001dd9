/-
  Walk of groundlinglaw23.large. Conditions: as the theorem says.
-/
import Derived.Test.YtlckmjiioohcmaaGreatDoorLmU
import Derived.Test.YtlckmjiioohcmaaGreatDoorRvM
namespace Go.Proofs.YtlckmjiioohcmaaGreatDoor
open Go.RowKit
end Go.Proofs.YtlckmjiioohcmaaGreatDoor
