/- A reader as a state: what each of its calls answers and leaves. -/
import Derived.Test.YtlihhjldkopfhaaOct4
namespace Go.Proofs.Ytlihhjldkopfhaa
open Go.RowKit
open Go.Lib (hid)

/-- how many bytes are taken off -/
def tookN (len : Nat) (why n : Int) : Nat := if why = 0 ∧ 0 ≤ n ∧ n ≤ len then n.toNat else 0
/-- the error behind it -/
def whyN (len : Nat) (why n : Int) : Int := if why = 0 then (if n < 0 then 2 else if (len : Int) < n then 7 else 0) else why
theorem tookN_le (len : Nat) (why n : Int) : tookN len why n ≤ len := by unfold tookN; split <;> omega

end Go.Proofs.Ytlihhjldkopfhaa
