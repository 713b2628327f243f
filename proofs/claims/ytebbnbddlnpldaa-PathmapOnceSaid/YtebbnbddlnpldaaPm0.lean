/- Texts, rows of maps and of edits; which texts are paths. -/
import Derived.Test.YtebbnbddlnpldaaRkE
import Derived.Test.YtebbnbddlnpldaaRkC
import Derived.Test.YtebbnbddlnpldaaTab
import Derived.Sort.Walk0
namespace Go.Proofs.Ytebbnbddlnpldaa
open Go.RowKit
open Asn (pt row rb)
set_option linter.unusedVariables false
set_option linter.unusedSimpArgs false
--@use N

abbrev Str := List UInt8
/-- a text as a value -/
def sv (l : Str) : Value := .string ⟨l.toArray⟩
/-- a row of a map; of an edit -/
abbrev Rw := Str × Str
abbrev Ch := Str × Bool × Str
def zi (z : Int) : Value := .int .i64 z
def rwc (x : Rw) : List Value := [sv x.1, sv x.2]
def chc (x : Ch) : List Value := [sv x.1, .bool x.2.1, sv x.2.2]
theorem rwc_len (a : Rw) : (rwc a).length = 2 := rfl
theorem chc_len (a : Ch) : (chc a).length = 3 := rfl
section
variable {P : Program} {n : Nat} {w0 : World} {M : Nat → Prop} {T : Slots} {H Hr : List Asn} {dd : Option Tmp} {tt : TypeId} {pos : String} {af : Array Edge} {g : Option (Nat × Bool)} {x y z : Operand} {ts : Array TypeId} {a b : Str}
theorem T_scm {op : BinOp} {t u : TypeId} {r : Bool} (hx : oget T x = some (sv a)) (hy : oget T y = some (sv b)) (hb : scmp op a b = some r) : Tk P n w0 M T H ⟨dd, .binOp op t x y u, tt, pos, af, g⟩ (.bool r) := T_scmp hx hy hb
theorem T_lens [HasTab P] {s : TypeId} {i : Ti} (hx : oget T x = some (sv a)) (ht : ty P s = some i) (hi : i.desc = .string) : Tk P n w0 M T H ⟨dd, .call ⟨.builtin .len, #[x], #[s]⟩, tt, pos, af, g⟩ (.int .i64 (a.length : Int)) := T_len_string hx ht hi
theorem T_ixc [HasTab P] {s : TypeId} {q : Nat} {w : Int} {kk : IntKind} {i : Ti} {c : UInt8} (hx : oget T x = some (sv a)) (hy : oget T y = some (.int kk w)) [hz : NatOf w q] (hs : ty P s = some i) (hi : i.desc = .string) (hq : q < a.length) (hc : a.getD q 0 = c) :
    Tk P n w0 M T H ⟨dd, .index s x y, tt, pos, af, g⟩ (.int .u8 (c.toNat : Int)) := by
  subst hc
  exact T_ixsN hx hy hs hi hq
end
theorem sv_one (a : Str) : (sv a).oneCell' = true := rfl
/-- may be a byte of a path; may be a path -/
def okc (c : UInt8) : Bool := decide (33 ≤ c.toNat) && decide (c.toNat ≤ 126)
def pathB (s : Str) : Bool := s.all okc && (decide (1 ≤ s.length) && decide (s.length ≤ 48))
theorem path_bad {s : Str} {j : Nat} (hj : j < s.length) (h : okc (s.getD j 0) = false) : pathB s = false := by
  have : s.all okc = false := by
    rw [List.all_eq_false]
    exact ⟨s[j], List.getElem_mem _, by simpa [List.getD, hj] using h⟩
  rw [pathB, this, Bool.false_and]
theorem all_next {s : Str} {j : Nat} (hj : j < s.length) (h : (s.take j).all okc = true) (hc : okc (s.getD j 0) = true) : (s.take (j + 1)).all okc = true := by
  rw [List.take_succ_eq_append_getElem hj, List.all_append, h]
  simpa [List.getD, hj] using hc
set_option maxRecDepth 100000 in
set_option maxHeartbeats 4000000 in
theorem path_any (w : World) (s : Str) (hs : s.length ≤ 100000) :
    Gives Try.prog 55 [sv s] [] w (X := Unit) (fun _ => .bool (pathB s)) (fun _ => True) (fun _ => []) := by
  refine gives_S Try.func55 rfl Try.ntmps55 Try.results55 (by simp) (St.enter w) (fun B hB => ?_)
  focus (refine S_seq rfl ?_; refine S_region rfl rfl ?_; refine R_p rfl ?_ rfl rfl; refine R_nil ?_; refine S_seq rfl ?_; refine S_seq rfl ?_; refine S_region rfl rfl ?_; refine R_p rfl ?_ rfl rfl; refine R_take (T_lens rfl rfl rfl) ?_ rfl rfl; refine R_p rfl ?_ rfl rfl; refine R_nil ?_; refine S_block rfl ?_)
  refine S_loop (X := Nat) (fun j => [(0, sv s), (5, .int .i64 (s.length : Int)), (6, .int .i64 (j : Int))]) (fun _ => []) (fun j => j ≤ s.length ∧ (s.take j).all okc = true) (fun j => s.length - j) rfl 0 ⟨Nat.zero_le _, rfl⟩ (Sub.cons rfl (Sub.cons rfl (Sub.cons rfl Sub.nil))) (fun _ h => h) ?_
  rintro j ⟨hj, hok⟩ J hJ
  rcases Nat.lt_or_ge j s.length with hjl | hjl
  · have hnx := all_next hjl hok
    have hbd := path_bad hjl
    obtain ⟨c, hc⟩ : ∃ c, s.getD j 0 = c := ⟨_, rfl⟩
    rw [hc] at hnx hbd
    focus (refine S_seq rfl ?_; refine S_region rfl rfl ?_; refine R_take (T_decT rfl (by omega)) ?_ rfl rfl; refine R_nil ?_; refine S_seq rfl ?_; refine S_true rfl rfl ?_; refine S_skip rfl ?_; refine S_seq rfl ?_; refine S_block rfl ?_; refine S_seq rfl ?_; refine S_region rfl rfl ?_; refine R_p rfl ?_ rfl rfl; refine R_p rfl ?_ rfl rfl; refine R_nil ?_; refine S_seq rfl ?_; refine S_region rfl rfl ?_; refine R_p rfl ?_ rfl rfl; refine R_p rfl ?_ rfl rfl; refine R_take (T_ixc rfl rfl rfl rfl hjl hc) ?_ rfl rfl; refine R_p rfl ?_ rfl rfl; refine R_p rfl ?_ rfl rfl; (refine R_splitd rfl rfl (fun hs => ?_) (fun hs => ?_)); refine R_skip ?_ rfl rfl; refine R_skip ?_ rfl rfl; refine R_skip ?_ rfl rfl; refine R_skip ?_ rfl rfl; refine R_p rfl ?_ rfl rfl; refine R_nil ?_; refine S_true rfl rfl ?_; refine S_seq rfl ?_; refine S_region rfl rfl ?_; refine R_p rfl ?_ rfl rfl; refine R_nil ?_; rotate_left; refine R_p rfl ?_ rfl rfl; refine R_p rfl ?_ rfl rfl; refine R_take (T_ixc rfl rfl rfl rfl hjl hc) ?_ rfl rfl; refine R_p rfl ?_ rfl rfl; refine R_p rfl ?_ rfl rfl; refine R_nil ?_; (refine S_if rfl rfl (fun hs => ?_) (fun hs => ?_)); refine S_seq rfl ?_; refine S_region rfl rfl ?_; refine R_p rfl ?_ rfl rfl; refine R_nil ?_; rotate_left; refine S_skip rfl ?_; refine RS_blk ?_; refine S_region rfl rfl ?_; refine R_take (T_addN rfl rfl (by unfold fits; omega)) ?_ rfl rfl; refine R_p rfl ?_ rfl rfl; refine R_nil ?_; rotate_left)
    · refine hB _ _ _ _ _ rfl rfl fun w' hS => ⟨(), ?_, trivial, hS.sublist (List.nil_sublist _)⟩
      rw [hbd (by simp [okc]; omega)]
      rfl
    · refine hB _ _ _ _ _ rfl rfl fun w' hS => ⟨(), ?_, trivial, hS.sublist (List.nil_sublist _)⟩
      rw [hbd (by simp [okc]; omega)]
      rfl
    · exact hJ (j + 1) _ _ ⟨by omega, hnx (by simp [okc]; omega)⟩ (Sub.cons rfl (Sub.cons rfl (Sub.cons rfl Sub.nil))) (fun _ h => h) (by omega)
  have hjn : j = s.length := by omega
  subst hjn
  rw [List.take_length] at hok
  focus (refine S_seq rfl ?_; refine S_region rfl rfl ?_; refine R_take (T_decF rfl (by omega)) ?_ rfl rfl; refine R_nil ?_; refine S_seq rfl ?_; refine S_false rfl rfl ?_; refine S_exit rfl rfl ?_; refine S_seq rfl ?_; refine S_region rfl rfl ?_; refine R_p rfl ?_ rfl rfl; refine R_take (T_lens rfl rfl rfl) ?_ rfl rfl; refine R_p rfl ?_ rfl rfl; refine R_p rfl ?_ rfl rfl; (refine R_splitd rfl rfl (fun hs => ?_) (fun hs => ?_)); refine R_p rfl ?_ rfl rfl; refine R_take (T_lens rfl rfl rfl) ?_ rfl rfl; refine R_p rfl ?_ rfl rfl; refine R_p rfl ?_ rfl rfl; refine R_p rfl ?_ rfl rfl; refine R_nil ?_; rotate_left; refine R_skip ?_ rfl rfl; refine R_skip ?_ rfl rfl; refine R_skip ?_ rfl rfl; refine R_p rfl ?_ rfl rfl; refine R_p rfl ?_ rfl rfl; refine R_nil ?_; rotate_left)
  all_goals (refine hB _ _ _ _ _ rfl rfl fun w' hS => ⟨(), ?_, trivial, hS.sublist (List.nil_sublist _)⟩)
  all_goals (refine congrArg Value.bool ?_; rw [pathB, hok, Bool.true_and, Bool.eq_iff_iff]; simp; omega)
set_option maxRecDepth 100000 in
set_option maxHeartbeats 4000000 in
theorem rpath_any (w : World) (s : Str) (hs : s.length ≤ 100000) :
    Gives Try.prog 35 [sv s] [] w (X := Unit) (fun _ => .bool (pathB s)) (fun _ => True) (fun _ => []) := by
  refine gives_S Try.func35 rfl Try.ntmps35 Try.results35 (by simp) (St.enter w) (fun B hB => ?_)
  focus (refine S_seq rfl ?_; refine S_region rfl rfl ?_; refine R_p rfl ?_ rfl rfl; refine R_nil ?_; refine S_seq rfl ?_; refine S_seq rfl ?_; refine S_region rfl rfl ?_; refine R_p rfl ?_ rfl rfl; refine R_nil ?_; refine S_block rfl ?_)
  refine S_loop (X := Nat) (fun j => [(0, sv s), (3, .int .i64 (j : Int))]) (fun _ => []) (fun j => j ≤ s.length ∧ (s.take j).all okc = true) (fun j => s.length - j) rfl 0 ⟨Nat.zero_le _, rfl⟩ (Sub.cons rfl (Sub.cons rfl Sub.nil)) (fun _ h => h) ?_
  rintro j ⟨hj, hok⟩ J hJ
  rcases Nat.lt_or_ge j s.length with hjl | hjl
  · have hnx := all_next hjl hok
    have hbd := path_bad hjl
    obtain ⟨c, hc⟩ : ∃ c, s.getD j 0 = c := ⟨_, rfl⟩
    rw [hc] at hnx hbd
    focus (refine S_seq rfl ?_; refine S_seq rfl ?_; refine S_region rfl rfl ?_; refine R_p rfl ?_ rfl rfl; refine R_p rfl ?_ rfl rfl; refine R_take (T_lens rfl rfl rfl) ?_ rfl rfl; refine R_take (T_decT rfl (by omega)) ?_ rfl rfl; refine R_nil ?_; refine S_true rfl rfl ?_; refine S_skip rfl ?_; refine S_seq rfl ?_; refine S_block rfl ?_; refine S_seq rfl ?_; refine S_region rfl rfl ?_; refine R_p rfl ?_ rfl rfl; refine R_p rfl ?_ rfl rfl; refine R_take (T_ixc rfl rfl rfl rfl hjl hc) ?_ rfl rfl; refine R_p rfl ?_ rfl rfl; refine R_p rfl ?_ rfl rfl; (refine R_splitd rfl rfl (fun hs => ?_) (fun hs => ?_)); refine R_skip ?_ rfl rfl; refine R_skip ?_ rfl rfl; refine R_skip ?_ rfl rfl; refine R_skip ?_ rfl rfl; refine R_p rfl ?_ rfl rfl; refine R_nil ?_; refine S_true rfl rfl ?_; refine S_seq rfl ?_; refine S_region rfl rfl ?_; refine R_p rfl ?_ rfl rfl; refine R_nil ?_; rotate_left; refine R_p rfl ?_ rfl rfl; refine R_p rfl ?_ rfl rfl; refine R_take (T_ixc rfl rfl rfl rfl hjl hc) ?_ rfl rfl; refine R_p rfl ?_ rfl rfl; refine R_p rfl ?_ rfl rfl; refine R_nil ?_; (refine S_if rfl rfl (fun hs => ?_) (fun hs => ?_)); refine S_seq rfl ?_; refine S_region rfl rfl ?_; refine R_p rfl ?_ rfl rfl; refine R_nil ?_; rotate_left; refine S_skip rfl ?_; refine RS_blk ?_; refine S_region rfl rfl ?_; refine R_p rfl ?_ rfl rfl; refine R_take (T_addN rfl rfl (by unfold fits; omega)) ?_ rfl rfl; refine R_p rfl ?_ rfl rfl; refine R_nil ?_; rotate_left)
    · refine hB _ _ _ _ _ rfl rfl fun w' hS => ⟨(), ?_, trivial, hS.sublist (List.nil_sublist _)⟩
      rw [hbd (by simp [okc]; omega)]
      rfl
    · refine hB _ _ _ _ _ rfl rfl fun w' hS => ⟨(), ?_, trivial, hS.sublist (List.nil_sublist _)⟩
      rw [hbd (by simp [okc]; omega)]
      rfl
    · exact hJ (j + 1) _ _ ⟨by omega, hnx (by simp [okc]; omega)⟩ (Sub.cons rfl (Sub.cons rfl Sub.nil)) (fun _ h => h) (by omega)
  have hjn : j = s.length := by omega
  subst hjn
  rw [List.take_length] at hok
  focus (refine S_seq rfl ?_; refine S_seq rfl ?_; refine S_region rfl rfl ?_; refine R_p rfl ?_ rfl rfl; refine R_p rfl ?_ rfl rfl; refine R_take (T_lens rfl rfl rfl) ?_ rfl rfl; refine R_take (T_decF rfl (by omega)) ?_ rfl rfl; refine R_nil ?_; refine S_false rfl rfl ?_; refine S_exit rfl rfl ?_; refine S_seq rfl ?_; refine S_region rfl rfl ?_; refine R_p rfl ?_ rfl rfl; refine R_take (T_lens rfl rfl rfl) ?_ rfl rfl; refine R_p rfl ?_ rfl rfl; refine R_p rfl ?_ rfl rfl; (refine R_splitd rfl rfl (fun hs => ?_) (fun hs => ?_)); refine R_p rfl ?_ rfl rfl; refine R_take (T_lens rfl rfl rfl) ?_ rfl rfl; refine R_p rfl ?_ rfl rfl; refine R_p rfl ?_ rfl rfl; refine R_p rfl ?_ rfl rfl; refine R_nil ?_; rotate_left; refine R_skip ?_ rfl rfl; refine R_skip ?_ rfl rfl; refine R_skip ?_ rfl rfl; refine R_p rfl ?_ rfl rfl; refine R_p rfl ?_ rfl rfl; refine R_nil ?_; rotate_left)
  all_goals (refine hB _ _ _ _ _ rfl rfl fun w' hS => ⟨(), ?_, trivial, hS.sublist (List.nil_sublist _)⟩)
  all_goals (refine congrArg Value.bool ?_; rw [pathB, hok, Bool.true_and, Bool.eq_iff_iff]; simp; omega)
section
variable {n : Nat} {w0 : World} {M : Nat → Prop} {T : Slots} {H Hr : List Asn} {dd : Option Tmp} {tt : TypeId} {pos : String} {af : Array Edge} {g : Option (Nat × Bool)} {x y z : Operand} {ts : Array TypeId} {a : Str} {r : Bool}
theorem E_pathW (hx : oget T x = some (sv a)) (ha : a.length ≤ 100000) (hr : pathB a = r) :
    Ef Try.prog n w0 M T H ⟨dd, .call ⟨.value (.func 55), #[x], ts⟩, tt, pos, af, g⟩ (fun u H' => u = .bool r ∧ H' = H) := by
  refine (E_gv ⟨_, Try.func55, rfl, by kernel_rfl⟩ (vs := [sv a]) (by simp [ogets, hx]) fun w hS => path_any w a ha).mono ?_
  rintro v H' ⟨_, rfl, _, rfl⟩ w hS
  exact ⟨_, _, rfl, ⟨by rw [hr], rfl⟩, hS⟩
theorem E_rpathW (hx : oget T x = some (sv a)) (ha : a.length ≤ 100000) (hr : pathB a = r) :
    Ef Try.prog n w0 M T H ⟨dd, .call ⟨.value (.func 35), #[x], ts⟩, tt, pos, af, g⟩ (fun u H' => u = .bool r ∧ H' = H) := by
  refine (E_gv ⟨_, Try.func35, rfl, by kernel_rfl⟩ (vs := [sv a]) (by simp [ogets, hx]) fun w hS => rpath_any w a ha).mono ?_
  rintro v H' ⟨_, rfl, _, rfl⟩ w hS
  exact ⟨_, _, rfl, ⟨by rw [hr], rfl⟩, hS⟩
end
end Go.Proofs.Ytebbnbddlnpldaa
