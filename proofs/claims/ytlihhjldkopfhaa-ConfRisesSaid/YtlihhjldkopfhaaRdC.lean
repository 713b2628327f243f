/- The reader's calls in the calculus. -/
import Derived.Test.YtlihhjldkopfhaaOcC
import Derived.Test.YtlihhjldkopfhaaRk7
import Derived.Test.YtlihhjldkopfhaaOct5
namespace Go.Proofs.Ytlihhjldkopfhaa
open Go.RowKit
open Asn (pt row rb)
/-- one step of a reader: t is taken off -/
structure Rstep (l : List UInt8) (why n : Int) (t l1 : List UInt8) (why1 : Int) : Prop where
  ht : t = l.take (tookN l.length why n)
  hl : l1 = l.drop (tookN l.length why n)
  hw : why1 = whyN l.length why n
  len : l1.length ≤ l.length
theorem Rstep.mk' (l : List UInt8) (why n : Int) : Rstep l why n (l.take (tookN l.length why n)) (l.drop (tookN l.length why n)) (whyN l.length why n) := ⟨rfl, rfl, rfl, by simp⟩
section
variable {n : Nat} {w0 : World} {M : Nat → Prop} {T : Slots} {H Hr : List Asn} {dd : Option Tmp} {tt : TypeId} {pos : String} {af : Array Edge} {g : Option (Nat × Bool)} {x y : Operand} {ts : Array TypeId} {gb : Nat} {F : Nat → Prop} {l : List UInt8} {why : Int}
end
end Go.Proofs.Ytlihhjldkopfhaa
