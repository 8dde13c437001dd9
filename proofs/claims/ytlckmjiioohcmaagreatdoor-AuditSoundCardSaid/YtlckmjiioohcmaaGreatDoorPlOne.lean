/-
  The plain law of AuditOne: in a record without faults a ticket is shown without an error exactly if it is the newest of its seat, neither refunded nor revoked. Conditions: as each theorem says.
-/
import Derived.Test.YtlckmjiioohcmaaGreatDoorAuZ
namespace Go.Proofs.YtlckmjiioohcmaaGreatDoor
open Go.RowKit
def runA (s : Au) (l : List (MOp × MRp)) : Au := l.foldl (fun s p => (readA s p.1 p.2).2.2) s
end Go.Proofs.YtlckmjiioohcmaaGreatDoor
