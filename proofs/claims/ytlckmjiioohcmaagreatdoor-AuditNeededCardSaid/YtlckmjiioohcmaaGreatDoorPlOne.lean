/-
  The plain law of AuditOne: in a record without faults a ticket is shown without an error exactly if it is the newest of its seat, neither refunded nor revoked. Conditions: as each theorem says.
-/
import Derived.Test.YtlckmjiioohcmaaGreatDoorAuZ
namespace Go.Proofs.YtlckmjiioohcmaaGreatDoor
open Go.RowKit
def runA (s:Au) (l:List (MOp×MRp)):Au:=l.foldl (fun s p=>(readA s p.1 p.2).2.2) s
theorem broken_zero {s:Au} {op:MOp} {rp:MRp} (h:brokenA s op rp=0):(rp.err≠0→(isB [9] op.kind&&validA s.seats op.tk)=false)∧(rp.err=0→∀k,k<11→ruleA s op rp k=false):=by
 unfold brokenA at h
 split at h
 ·omega
 ·constructor
  ·intro he
   rw[if_pos he] at h
   split at h
   ·omega
   ·rename_i hq;simpa using hq
  ·intro he
   rw[if_neg (by simpa using he)] at h
   split at h
   ·omega
   ·rename_i hq
    intro k hk
    have:=List.find?_eq_none.1 hq k (List.mem_range.2 hk)
    simpa using this
end Go.Proofs.YtlckmjiioohcmaaGreatDoor
