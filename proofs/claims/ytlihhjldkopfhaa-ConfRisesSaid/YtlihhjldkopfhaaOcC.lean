/- The octet functions, called in the calculus. -/
import Derived.Test.YtlihhjldkopfhaaTab
import Derived.Test.YtlihhjldkopfhaaRk6
import Derived.Test.YtlihhjldkopfhaaOct6
namespace Go.Proofs.Ytlihhjldkopfhaa
open Go.RowKit
open Asn (pt row rb)
set_option linter.unusedVariables false
set_option linter.unusedSimpArgs false
section
variable {n : Nat} {w0 : World} {M : Nat → Prop} {T : Slots} {H Hr : List Asn} {dd : Option Tmp} {tt : TypeId} {pos : String} {af : Array Edge} {g : Option (Nat × Bool)} {x y : Operand} {ts : Array TypeId}
end
end Go.Proofs.Ytlihhjldkopfhaa
