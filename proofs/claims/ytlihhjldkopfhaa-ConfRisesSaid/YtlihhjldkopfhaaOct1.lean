/- Contracts of small byte functions. -/
import Derived.Test.YtlihhjldkopfhaaProg
import Derived.Test.YtlihhjldkopfhaaB
import Derived.Deep.QuietTactic
import Derived.BigQuiet
namespace Go.Proofs.Ytlihhjldkopfhaa
open Go.RowKit
open Go.Lib (hid)
theorem take_succ_eq {l1 l2 : List UInt8} {k : Nat} (h1 : k < l1.length) (h2 : k < l2.length) (h : l1.take k = l2.take k) :
    l1.take (k + 1) = l2.take (k + 1) ↔ l1.getD k 0 = l2.getD k 0 := by
  rw [List.take_succ_eq_append_getElem h1, h, List.take_succ_eq_append_getElem h2, List.append_cancel_left_eq]
  simp [h1, h2]

theorem byte_lt (b : UInt8) : b.toNat < 256 := b.toNat_lt

theorem beq_eq_decide (l1 l2 : List UInt8) : (l1 == l2) = decide (l1 = l2) := by rw [Bool.eq_iff_iff]; simp

end Go.Proofs.Ytlihhjldkopfhaa
