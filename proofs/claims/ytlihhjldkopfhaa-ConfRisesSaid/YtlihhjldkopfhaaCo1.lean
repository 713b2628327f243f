/- Members: which may be; where one is. -/
import Derived.Test.YtlihhjldkopfhaaTab
import Derived.Test.YtlihhjldkopfhaaRk9
import Derived.Test.YtlihhjldkopfhaaRdC
namespace Go.Proofs.Ytlihhjldkopfhaa
open Go.RowKit
open Asn (pt row rb)
set_option linter.unusedVariables false
set_option linter.unusedSimpArgs false
--@use N

def zv (n : Int) : Value := .int .i64 n
def memb (m : Int) : Bool := decide (1 ≤ m ∧ m ≤ 5)
/-- the loop of Check: may they be so far, and the last -/
def chk : List Int → Bool × Int → Bool × Int
  | [], s => s
  | m :: ms, s => chk ms (s.1 && memb m && decide (s.2 < m), m)
def right (ms : List Int) : Bool := (chk ms (decide ((0 : Int) < (ms.length : Int)), 0)).1
theorem chk_next (ms : List Int) (s : Bool × Int) (j : Nat) (h : j < ms.length) : chk (ms.take (j + 1)) s = ((chk (ms.take j) s).1 && memb (ms.getD j 0) && decide ((chk (ms.take j) s).2 < ms.getD j 0), ms.getD j 0) := by
  induction ms generalizing s j with
  | nil => cases h
  | cons m ms ih =>
    cases j with
    | zero => simp [chk]
    | succ j =>
      simp only [List.take_succ_cons, chk, List.getD_cons_succ]
      exact ih _ j (by simpa using h)

set_option maxRecDepth 100000 in
set_option maxHeartbeats 4000000 in
theorem member_any (w : World) (m : Int) :
    Gives Try.prog 37 [zv m] [] w (X := Unit) (fun _ => .bool (memb m)) (fun _ => True) (fun _ => []) := by
  refine gives_S Try.func37 rfl Try.ntmps37 Try.results37 (by simp) (St.enter w) (fun B hB => ?_)
  focus (refine S_seq rfl ?_; refine S_region rfl rfl ?_; refine R_p rfl ?_ rfl rfl; refine R_nil ?_; refine S_seq rfl ?_; refine S_region rfl rfl ?_; refine R_p rfl ?_ rfl rfl; refine R_p rfl ?_ rfl rfl; refine R_p rfl ?_ rfl rfl; (refine R_splitd rfl rfl (fun hs => ?_) (fun hs => ?_)); refine R_p rfl ?_ rfl rfl; refine R_p rfl ?_ rfl rfl; refine R_p rfl ?_ rfl rfl; refine R_p rfl ?_ rfl rfl; refine R_nil ?_; rotate_left; refine R_skip ?_ rfl rfl; refine R_skip ?_ rfl rfl; refine R_p rfl ?_ rfl rfl; refine R_p rfl ?_ rfl rfl; refine R_nil ?_; rotate_left)
  all_goals (refine hB _ _ _ _ _ rfl rfl fun w' hS => ⟨(), ?_, trivial, hS⟩)
  all_goals (simp [memb, *]; rfl)
theorem nan_any (w : World) (m : Int) :
    Gives Try.prog 69 [zv m] [] w (X := Unit) (fun _ => .bool false) (fun _ => True) (fun _ => []) := by
  refine gives_S Try.func69 rfl Try.ntmps69 Try.results69 (by simp) (St.enter w) (fun B hB => ?_)
  focus (refine S_seq rfl ?_; refine S_region rfl rfl ?_; refine R_p rfl ?_ rfl rfl; refine R_nil ?_; refine S_seq rfl ?_; refine S_region rfl rfl ?_; refine R_p rfl ?_ rfl rfl; refine R_p rfl ?_ rfl rfl; refine R_p rfl ?_ rfl rfl; refine R_p rfl ?_ rfl rfl; refine R_nil ?_)
  all_goals (refine hB _ _ _ _ _ rfl rfl fun w' hS => ⟨(), ?_, trivial, hS⟩)
  all_goals (simp; rfl)
theorem nan2_any (w : World) (m : Int) :
    Gives Try.prog 56 [zv m] [] w (X := Unit) (fun _ => .bool false) (fun _ => True) (fun _ => []) := by
  refine gives_S Try.func56 rfl Try.ntmps56 Try.results56 (by simp) (St.enter w) (fun B hB => ?_)
  focus (refine S_seq rfl ?_; refine S_region rfl rfl ?_; refine R_p rfl ?_ rfl rfl; refine R_nil ?_; refine S_seq rfl ?_; refine S_region rfl rfl ?_; refine R_p rfl ?_ rfl rfl; refine R_p rfl ?_ rfl rfl; refine R_p rfl ?_ rfl rfl; refine R_p rfl ?_ rfl rfl; refine R_nil ?_)
  all_goals (refine hB _ _ _ _ _ rfl rfl fun w' hS => ⟨(), ?_, trivial, hS⟩)
  all_goals (simp; rfl)
section
variable {n : Nat} {w0 : World} {M : Nat → Prop} {T : Slots} {H Hr : List Asn} {dd : Option Tmp} {tt : TypeId} {pos : String} {af : Array Edge} {g : Option (Nat × Bool)} {x y z : Operand} {ts : Array TypeId}
theorem E_nan {a : Int} (hx : oget T x = some (zv a)) :
    Ef Try.prog n w0 M T H ⟨dd, .call ⟨.value (.func 69), #[x], ts⟩, tt, pos, af, g⟩ (fun u H' => u = .bool false ∧ H' = H) := by
  refine (E_gv ⟨_, Try.func69, rfl, by kernel_rfl⟩ (vs := [zv a]) (by simp [ogets, hx]) fun w hS => nan_any w a).mono ?_
  rintro v H' ⟨_, rfl, _, rfl⟩ w hS
  exact ⟨_, _, rfl, ⟨rfl, rfl⟩, hS⟩
theorem E_nan2 {a : Int} (hx : oget T x = some (zv a)) :
    Ef Try.prog n w0 M T H ⟨dd, .call ⟨.value (.func 56), #[x], ts⟩, tt, pos, af, g⟩ (fun u H' => u = .bool false ∧ H' = H) := by
  refine (E_gv ⟨_, Try.func56, rfl, by kernel_rfl⟩ (vs := [zv a]) (by simp [ogets, hx]) fun w hS => nan2_any w a).mono ?_
  rintro v H' ⟨_, rfl, _, rfl⟩ w hS
  exact ⟨_, _, rfl, ⟨rfl, rfl⟩, hS⟩
theorem E_member {a : Int} (hx : oget T x = some (zv a)) :
    Ef Try.prog n w0 M T H ⟨dd, .call ⟨.value (.func 37), #[x], ts⟩, tt, pos, af, g⟩ (fun u H' => u = .bool (memb a) ∧ H' = H) := by
  refine (E_gv ⟨_, Try.func37, rfl, by kernel_rfl⟩ (vs := [zv a]) (by simp [ogets, hx]) fun w hS => member_any w a).mono ?_
  rintro v H' ⟨_, rfl, _, rfl⟩ w hS
  exact ⟨_, _, rfl, ⟨rfl, rfl⟩, hS⟩
end
set_option maxRecDepth 100000 in
set_option maxHeartbeats 4000000 in
theorem less_any (w : World) (a b : Int) :
    Gives Try.prog 55 [zv a, zv b] [] w (X := Unit) (fun _ => .bool (decide (a < b))) (fun _ => True) (fun _ => []) := by
  refine gives_S Try.func55 rfl Try.ntmps55 Try.results55 (by simp) (St.enter w) (fun B hB => ?_)
  focus (refine S_seq rfl ?_; refine S_region rfl rfl ?_; refine R_p rfl ?_ rfl rfl; refine R_nil ?_; refine S_seq rfl ?_; refine S_region rfl rfl ?_; refine R_p rfl ?_ rfl rfl; (refine R_eff (E_nan rfl) ?_ rfl rfl; rintro _ _ ⟨rfl, rfl⟩); refine R_p rfl ?_ rfl rfl; refine R_skip ?_ rfl rfl; refine R_skip ?_ rfl rfl; refine R_skip ?_ rfl rfl; refine R_p rfl ?_ rfl rfl; refine R_p rfl ?_ rfl rfl; refine R_p rfl ?_ rfl rfl; refine R_p rfl ?_ rfl rfl; refine R_p rfl ?_ rfl rfl; refine R_p rfl ?_ rfl rfl; refine R_p rfl ?_ rfl rfl; refine R_nil ?_)
  all_goals (refine hB _ _ _ _ _ rfl rfl fun w' hS => ⟨(), ?_, trivial, hS⟩)
  all_goals first | rfl | (simp [*]; rfl)
section
variable {n : Nat} {w0 : World} {M : Nat → Prop} {T : Slots} {H Hr : List Asn} {dd : Option Tmp} {tt : TypeId} {pos : String} {af : Array Edge} {g : Option (Nat × Bool)} {x y z : Operand} {ts : Array TypeId}
theorem E_less {a b : Int} (hx : oget T x = some (zv a)) (hy : oget T y = some (zv b)) :
    Ef Try.prog n w0 M T H ⟨dd, .call ⟨.value (.func 55), #[x, y], ts⟩, tt, pos, af, g⟩ (fun u H' => u = .bool (decide (a < b)) ∧ H' = H) := by
  refine (E_gv ⟨_, Try.func55, rfl, by kernel_rfl⟩ (vs := [zv a, zv b]) (by simp [ogets, hx, hy]) fun w hS => less_any w a b).mono ?_
  rintro v H' ⟨_, rfl, _, rfl⟩ w hS
  exact ⟨_, _, rfl, ⟨rfl, rfl⟩, hS⟩
end
end Go.Proofs.Ytlihhjldkopfhaa
