/-
  New's errors. Conditions: as each theorem says.
-/
import Derived.Test.YtlngbdggehghgaaScO
namespace Go.Proofs.Ytlngbdggehghgaa
set_option linter.unusedSimpArgs false
set_option linter.unusedVariables false
open Go.RowKit
def newE (n:Nat) (most:Int):Int:=if n=0∨200<n then 2 else if most<0∨20000<most then 7 else 0
end Go.Proofs.Ytlngbdggehghgaa
