/- What Put16, Put32, Put64 lay. -/
import Derived.Test.YtlihhjldkopfhaaProg
import Derived.Test.YtlihhjldkopfhaaB
namespace Go.Proofs.Ytlihhjldkopfhaa
open Go.RowKit
open Go.Lib (hid)

theorem set_mid (l t : List UInt8) (k : Nat) (b : UInt8) : (((l ++ List.replicate (k + 1) 0 ++ t).map bv).toArray.setIfInBounds (l.length + k) (bv b)) = ((l ++ List.replicate k 0 ++ b :: t).map bv).toArray := by
  rw [List.setIfInBounds_toArray]
  congr 1
  rw [← List.map_set]
  congr 1
  rw [List.replicate_succ', List.append_assoc, List.set_append]
  simp
  omega

theorem get_mid (l t : List UInt8) (k : Nat) : ((l ++ List.replicate (k + 1) 0 ++ t).map bv).toArray[l.length + k]? = some (.int .u8 0) := by
  rw [List.getElem?_toArray, List.getElem?_map, List.append_assoc, List.getElem?_append_right (by omega), List.getElem?_append_left (by simp)]
  simp [bv]
theorem take_fill (l : List UInt8) (m : Nat) : List.take 0 (List.replicate (l.length + m) (0 : UInt8)) ++ List.take (l.length + m) l ++ List.drop (0 + min l.length (l.length + m)) (List.replicate (l.length + m) 0) = l ++ List.replicate m 0 ++ [] := by
  rw [List.take_of_length_le (l := l) (by omega), Nat.min_eq_left (by omega)]
  simp

end Go.Proofs.Ytlihhjldkopfhaa
