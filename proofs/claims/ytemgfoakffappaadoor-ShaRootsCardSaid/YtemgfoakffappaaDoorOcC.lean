/- The octet functions, called in the calculus. -/
import Derived.Test.YtemgfoakffappaaDoorTab
import Derived.Test.YtemgfoakffappaaDoorRk6
import Derived.Test.YtemgfoakffappaaDoorOct6
namespace Go.Proofs.YtemgfoakffappaaDoor
open Go.RowKit
open Asn (pt row rb)
set_option linter.unusedVariables false
set_option linter.unusedSimpArgs false
section
variable {n : Nat} {w0 : World} {M : Nat → Prop} {T : Slots} {H Hr : List Asn} {dd : Option Tmp} {tt : TypeId} {pos : String} {af : Array Edge} {g : Option (Nat × Bool)} {x y : Operand} {ts : Array TypeId}
theorem E_high {k : Nat} {X : Int} (hx : oget T x = some (.int .u64 X)) (hy : oget T y = some (.int .i64 (k : Int))) (hX : 0 ≤ X ∧ X < 18446744073709551616) (hk : k ≤ 1000) :
    Ef Tryd.prog n w0 M T H ⟨dd, .call ⟨.value (.func 41), #[x, y], ts⟩, tt, pos, af, g⟩ (fun u H' => ∃ A' c', u = .slice A' k c' ∧ H' = row 5 1 A' k c' ((be k X.toNat).map bv) :: H) := by
  refine E_g1 ⟨_, Tryd.func41, rfl, by kernel_rfl⟩ (vs := [.int .u64 X, .int .i64 k]) (by simp [ogets, hx, hy]) fun w hS => ?_
  have h := high_any k w X.toNat hk (by omega)
  rw [show ((X.toNat : Nat) : Int) = X by omega] at h
  exact h
theorem E_both {A1 A2 : Option Addr} {n1 c1 n2 c2 : Nat} {l1 l2 : List UInt8} (hx : oget T x = some (.slice A1 n1 c1)) (hy : oget T y = some (.slice A2 n2 c2)) (h1 : Src w0 M H A1 n1 c1 l1) (h2 : Src w0 M H A2 n2 c2 l2) (hn : n1 + n2 ≤ 140737488355328) :
    Ef Tryd.prog n w0 M T H ⟨dd, .call ⟨.value (.func 42), #[x, y], ts⟩, tt, pos, af, g⟩ (fun u H' => ∃ A' c', u = .slice A' (n1 + n2) c' ∧ H' = row 5 1 A' (n1 + n2) c' ((l1 ++ l2).map bv) :: H) :=
  E_g1 ⟨_, Tryd.func42, rfl, by kernel_rfl⟩ (vs := [.slice A1 n1 c1, .slice A2 n2 c2]) (by simp [ogets, hx, hy]) fun w hS => both_any w A1 A2 n1 c1 n2 c2 l1 l2 All All (h1.bs w hS) (h2.bs w hS) hn
end
end Go.Proofs.YtemgfoakffappaaDoor
