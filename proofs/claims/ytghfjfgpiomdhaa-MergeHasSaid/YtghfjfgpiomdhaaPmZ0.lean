/- Texts, rows of maps and of edits; which texts are paths. Maps and edits: Check, CheckEdit. Rows that rise. Check, CheckEdit; ref Right, RightEdit. Which maps and edits may be, by the document. Which edits may be, by the document. Rows of a map: slices.Clone, slices.Insert, slices.Delete. Lists that rise by a key; one change applied to one. Plain. Texts compared; a row searched. A row searched. -/
import Derived.Test.YtghfjfgpiomdhaaRkE
import Derived.Test.YtghfjfgpiomdhaaRkC
import Derived.Test.YtghfjfgpiomdhaaTab
import Derived.Sort.Walk0
import Derived.Test.YtghfjfgpiomdhaaRkA
namespace Go.Proofs.Ytghfjfgpiomdhaa
open Go.RowKit
open Asn (pt row rb)
set_option linter.unusedVariables false
set_option linter.unusedSimpArgs false
--@use N

abbrev Str := List UInt8
/-- a text as a value -/
def sv (l : Str) : Value := .string ⟨l.toArray⟩
/-- a row of a map; of an edit -/
abbrev Rw := Str × Str
abbrev Ch := Str × Bool × Str
def zi (z : Int) : Value := .int .i64 z
def rwc (x : Rw) : List Value := [sv x.1, sv x.2]
def chc (x : Ch) : List Value := [sv x.1, .bool x.2.1, sv x.2.2]
theorem rwc_len (a : Rw) : (rwc a).length = 2 := rfl
theorem chc_len (a : Ch) : (chc a).length = 3 := rfl
section
variable {P : Program} {n : Nat} {w0 : World} {M : Nat → Prop} {T : Slots} {H Hr : List Asn} {dd : Option Tmp} {tt : TypeId} {pos : String} {af : Array Edge} {g : Option (Nat × Bool)} {x y z : Operand} {ts : Array TypeId} {a b : Str}
theorem T_scm {op : BinOp} {t u : TypeId} {r : Bool} (hx : oget T x = some (sv a)) (hy : oget T y = some (sv b)) (hb : scmp op a b = some r) : Tk P n w0 M T H ⟨dd, .binOp op t x y u, tt, pos, af, g⟩ (.bool r) := T_scmp hx hy hb
theorem T_lens [HasTab P] {s : TypeId} {i : Ti} (hx : oget T x = some (sv a)) (ht : ty P s = some i) (hi : i.desc = .string) : Tk P n w0 M T H ⟨dd, .call ⟨.builtin .len, #[x], #[s]⟩, tt, pos, af, g⟩ (.int .i64 (a.length : Int)) := T_len_string hx ht hi
theorem T_ixc [HasTab P] {s : TypeId} {q : Nat} {w : Int} {kk : IntKind} {i : Ti} {c : UInt8} (hx : oget T x = some (sv a)) (hy : oget T y = some (.int kk w)) [hz : NatOf w q] (hs : ty P s = some i) (hi : i.desc = .string) (hq : q < a.length) (hc : a.getD q 0 = c) :
    Tk P n w0 M T H ⟨dd, .index s x y, tt, pos, af, g⟩ (.int .u8 (c.toNat : Int)) := by
  subst hc
  exact T_ixsN hx hy hs hi hq
end
theorem sv_one (a : Str) : (sv a).oneCell' = true := rfl
/-- may be a byte of a path; may be a path -/
def okc (c : UInt8) : Bool := decide (33 ≤ c.toNat) && decide (c.toNat ≤ 126)
def pathB (s : Str) : Bool := s.all okc && (decide (1 ≤ s.length) && decide (s.length ≤ 48))
theorem path_bad {s : Str} {j : Nat} (hj : j < s.length) (h : okc (s.getD j 0) = false) : pathB s = false := by
  have : s.all okc = false := by
    rw [List.all_eq_false]
    exact ⟨s[j], List.getElem_mem _, by simpa [List.getD, hj] using h⟩
  rw [pathB, this, Bool.false_and]
theorem all_next {s : Str} {j : Nat} (hj : j < s.length) (h : (s.take j).all okc = true) (hc : okc (s.getD j 0) = true) : (s.take (j + 1)).all okc = true := by
  rw [List.take_succ_eq_append_getElem hj, List.all_append, h]
  simpa [List.getD, hj] using hc
set_option maxRecDepth 100000 in
set_option maxHeartbeats 4000000 in
theorem path_any (w : World) (s : Str) (hs : s.length ≤ 100000) :
    Gives Try.prog 75 [sv s] [] w (X := Unit) (fun _ => .bool (pathB s)) (fun _ => True) (fun _ => []) := by
  refine gives_S Try.func75 rfl Try.ntmps75 Try.results75 (by simp) (St.enter w) (fun B hB => ?_)
  focus (refine S_seq rfl ?_; refine S_region rfl rfl ?_; refine R_p rfl ?_ rfl rfl; refine R_nil ?_; refine S_seq rfl ?_; refine S_seq rfl ?_; refine S_region rfl rfl ?_; refine R_p rfl ?_ rfl rfl; refine R_take (T_lens rfl rfl rfl) ?_ rfl rfl; refine R_p rfl ?_ rfl rfl; refine R_nil ?_; refine S_block rfl ?_)
  refine S_loop (X := Nat) (fun j => [(0, sv s), (5, .int .i64 (s.length : Int)), (6, .int .i64 (j : Int))]) (fun _ => []) (fun j => j ≤ s.length ∧ (s.take j).all okc = true) (fun j => s.length - j) rfl 0 ⟨Nat.zero_le _, rfl⟩ (Sub.cons rfl (Sub.cons rfl (Sub.cons rfl Sub.nil))) (fun _ h => h) ?_
  rintro j ⟨hj, hok⟩ J hJ
  rcases Nat.lt_or_ge j s.length with hjl | hjl
  · have hnx := all_next hjl hok
    have hbd := path_bad hjl
    obtain ⟨c, hc⟩ : ∃ c, s.getD j 0 = c := ⟨_, rfl⟩
    rw [hc] at hnx hbd
    focus (refine S_seq rfl ?_; refine S_region rfl rfl ?_; refine R_take (T_decT rfl (by omega)) ?_ rfl rfl; refine R_nil ?_; refine S_seq rfl ?_; refine S_true rfl rfl ?_; refine S_skip rfl ?_; refine S_seq rfl ?_; refine S_block rfl ?_; refine S_seq rfl ?_; refine S_region rfl rfl ?_; refine R_p rfl ?_ rfl rfl; refine R_p rfl ?_ rfl rfl; refine R_nil ?_; refine S_seq rfl ?_; refine S_region rfl rfl ?_; refine R_p rfl ?_ rfl rfl; refine R_p rfl ?_ rfl rfl; refine R_take (T_ixc rfl rfl rfl rfl hjl hc) ?_ rfl rfl; refine R_p rfl ?_ rfl rfl; refine R_p rfl ?_ rfl rfl; (refine R_splitd rfl rfl (fun hs => ?_) (fun hs => ?_)); refine R_skip ?_ rfl rfl; refine R_skip ?_ rfl rfl; refine R_skip ?_ rfl rfl; refine R_skip ?_ rfl rfl; refine R_p rfl ?_ rfl rfl; refine R_nil ?_; refine S_true rfl rfl ?_; refine S_seq rfl ?_; refine S_region rfl rfl ?_; refine R_p rfl ?_ rfl rfl; refine R_nil ?_; rotate_left; refine R_p rfl ?_ rfl rfl; refine R_p rfl ?_ rfl rfl; refine R_take (T_ixc rfl rfl rfl rfl hjl hc) ?_ rfl rfl; refine R_p rfl ?_ rfl rfl; refine R_p rfl ?_ rfl rfl; refine R_nil ?_; (refine S_if rfl rfl (fun hs => ?_) (fun hs => ?_)); refine S_seq rfl ?_; refine S_region rfl rfl ?_; refine R_p rfl ?_ rfl rfl; refine R_nil ?_; rotate_left; refine S_skip rfl ?_; refine RS_blk ?_; refine S_region rfl rfl ?_; refine R_take (T_addN rfl rfl (by unfold fits; omega)) ?_ rfl rfl; refine R_p rfl ?_ rfl rfl; refine R_nil ?_; rotate_left)
    · refine hB _ _ _ _ _ rfl rfl fun w' hS => ⟨(), ?_, trivial, hS.sublist (List.nil_sublist _)⟩
      rw [hbd (by simp [okc]; omega)]
      rfl
    · refine hB _ _ _ _ _ rfl rfl fun w' hS => ⟨(), ?_, trivial, hS.sublist (List.nil_sublist _)⟩
      rw [hbd (by simp [okc]; omega)]
      rfl
    · exact hJ (j + 1) _ _ ⟨by omega, hnx (by simp [okc]; omega)⟩ (Sub.cons rfl (Sub.cons rfl (Sub.cons rfl Sub.nil))) (fun _ h => h) (by omega)
  have hjn : j = s.length := by omega
  subst hjn
  rw [List.take_length] at hok
  focus (refine S_seq rfl ?_; refine S_region rfl rfl ?_; refine R_take (T_decF rfl (by omega)) ?_ rfl rfl; refine R_nil ?_; refine S_seq rfl ?_; refine S_false rfl rfl ?_; refine S_exit rfl rfl ?_; refine S_seq rfl ?_; refine S_region rfl rfl ?_; refine R_p rfl ?_ rfl rfl; refine R_take (T_lens rfl rfl rfl) ?_ rfl rfl; refine R_p rfl ?_ rfl rfl; refine R_p rfl ?_ rfl rfl; (refine R_splitd rfl rfl (fun hs => ?_) (fun hs => ?_)); refine R_p rfl ?_ rfl rfl; refine R_take (T_lens rfl rfl rfl) ?_ rfl rfl; refine R_p rfl ?_ rfl rfl; refine R_p rfl ?_ rfl rfl; refine R_p rfl ?_ rfl rfl; refine R_nil ?_; rotate_left; refine R_skip ?_ rfl rfl; refine R_skip ?_ rfl rfl; refine R_skip ?_ rfl rfl; refine R_p rfl ?_ rfl rfl; refine R_p rfl ?_ rfl rfl; refine R_nil ?_; rotate_left)
  all_goals (refine hB _ _ _ _ _ rfl rfl fun w' hS => ⟨(), ?_, trivial, hS.sublist (List.nil_sublist _)⟩)
  all_goals (refine congrArg Value.bool ?_; rw [pathB, hok, Bool.true_and, Bool.eq_iff_iff]; simp; omega)
set_option maxRecDepth 100000 in
set_option maxHeartbeats 4000000 in
theorem rpath_any (w : World) (s : Str) (hs : s.length ≤ 100000) :
    Gives Try.prog 46 [sv s] [] w (X := Unit) (fun _ => .bool (pathB s)) (fun _ => True) (fun _ => []) := by
  refine gives_S Try.func46 rfl Try.ntmps46 Try.results46 (by simp) (St.enter w) (fun B hB => ?_)
  focus (refine S_seq rfl ?_; refine S_region rfl rfl ?_; refine R_p rfl ?_ rfl rfl; refine R_nil ?_; refine S_seq rfl ?_; refine S_seq rfl ?_; refine S_region rfl rfl ?_; refine R_p rfl ?_ rfl rfl; refine R_nil ?_; refine S_block rfl ?_)
  refine S_loop (X := Nat) (fun j => [(0, sv s), (3, .int .i64 (j : Int))]) (fun _ => []) (fun j => j ≤ s.length ∧ (s.take j).all okc = true) (fun j => s.length - j) rfl 0 ⟨Nat.zero_le _, rfl⟩ (Sub.cons rfl (Sub.cons rfl Sub.nil)) (fun _ h => h) ?_
  rintro j ⟨hj, hok⟩ J hJ
  rcases Nat.lt_or_ge j s.length with hjl | hjl
  · have hnx := all_next hjl hok
    have hbd := path_bad hjl
    obtain ⟨c, hc⟩ : ∃ c, s.getD j 0 = c := ⟨_, rfl⟩
    rw [hc] at hnx hbd
    focus (refine S_seq rfl ?_; refine S_seq rfl ?_; refine S_region rfl rfl ?_; refine R_p rfl ?_ rfl rfl; refine R_p rfl ?_ rfl rfl; refine R_take (T_lens rfl rfl rfl) ?_ rfl rfl; refine R_take (T_decT rfl (by omega)) ?_ rfl rfl; refine R_nil ?_; refine S_true rfl rfl ?_; refine S_skip rfl ?_; refine S_seq rfl ?_; refine S_block rfl ?_; refine S_seq rfl ?_; refine S_region rfl rfl ?_; refine R_p rfl ?_ rfl rfl; refine R_p rfl ?_ rfl rfl; refine R_take (T_ixc rfl rfl rfl rfl hjl hc) ?_ rfl rfl; refine R_p rfl ?_ rfl rfl; refine R_p rfl ?_ rfl rfl; (refine R_splitd rfl rfl (fun hs => ?_) (fun hs => ?_)); refine R_skip ?_ rfl rfl; refine R_skip ?_ rfl rfl; refine R_skip ?_ rfl rfl; refine R_skip ?_ rfl rfl; refine R_p rfl ?_ rfl rfl; refine R_nil ?_; refine S_true rfl rfl ?_; refine S_seq rfl ?_; refine S_region rfl rfl ?_; refine R_p rfl ?_ rfl rfl; refine R_nil ?_; rotate_left; refine R_p rfl ?_ rfl rfl; refine R_p rfl ?_ rfl rfl; refine R_take (T_ixc rfl rfl rfl rfl hjl hc) ?_ rfl rfl; refine R_p rfl ?_ rfl rfl; refine R_p rfl ?_ rfl rfl; refine R_nil ?_; (refine S_if rfl rfl (fun hs => ?_) (fun hs => ?_)); refine S_seq rfl ?_; refine S_region rfl rfl ?_; refine R_p rfl ?_ rfl rfl; refine R_nil ?_; rotate_left; refine S_skip rfl ?_; refine RS_blk ?_; refine S_region rfl rfl ?_; refine R_p rfl ?_ rfl rfl; refine R_take (T_addN rfl rfl (by unfold fits; omega)) ?_ rfl rfl; refine R_p rfl ?_ rfl rfl; refine R_nil ?_; rotate_left)
    · refine hB _ _ _ _ _ rfl rfl fun w' hS => ⟨(), ?_, trivial, hS.sublist (List.nil_sublist _)⟩
      rw [hbd (by simp [okc]; omega)]
      rfl
    · refine hB _ _ _ _ _ rfl rfl fun w' hS => ⟨(), ?_, trivial, hS.sublist (List.nil_sublist _)⟩
      rw [hbd (by simp [okc]; omega)]
      rfl
    · exact hJ (j + 1) _ _ ⟨by omega, hnx (by simp [okc]; omega)⟩ (Sub.cons rfl (Sub.cons rfl Sub.nil)) (fun _ h => h) (by omega)
  have hjn : j = s.length := by omega
  subst hjn
  rw [List.take_length] at hok
  focus (refine S_seq rfl ?_; refine S_seq rfl ?_; refine S_region rfl rfl ?_; refine R_p rfl ?_ rfl rfl; refine R_p rfl ?_ rfl rfl; refine R_take (T_lens rfl rfl rfl) ?_ rfl rfl; refine R_take (T_decF rfl (by omega)) ?_ rfl rfl; refine R_nil ?_; refine S_false rfl rfl ?_; refine S_exit rfl rfl ?_; refine S_seq rfl ?_; refine S_region rfl rfl ?_; refine R_p rfl ?_ rfl rfl; refine R_take (T_lens rfl rfl rfl) ?_ rfl rfl; refine R_p rfl ?_ rfl rfl; refine R_p rfl ?_ rfl rfl; (refine R_splitd rfl rfl (fun hs => ?_) (fun hs => ?_)); refine R_p rfl ?_ rfl rfl; refine R_take (T_lens rfl rfl rfl) ?_ rfl rfl; refine R_p rfl ?_ rfl rfl; refine R_p rfl ?_ rfl rfl; refine R_p rfl ?_ rfl rfl; refine R_nil ?_; rotate_left; refine R_skip ?_ rfl rfl; refine R_skip ?_ rfl rfl; refine R_skip ?_ rfl rfl; refine R_p rfl ?_ rfl rfl; refine R_p rfl ?_ rfl rfl; refine R_nil ?_; rotate_left)
  all_goals (refine hB _ _ _ _ _ rfl rfl fun w' hS => ⟨(), ?_, trivial, hS.sublist (List.nil_sublist _)⟩)
  all_goals (refine congrArg Value.bool ?_; rw [pathB, hok, Bool.true_and, Bool.eq_iff_iff]; simp; omega)
section
variable {n : Nat} {w0 : World} {M : Nat → Prop} {T : Slots} {H Hr : List Asn} {dd : Option Tmp} {tt : TypeId} {pos : String} {af : Array Edge} {g : Option (Nat × Bool)} {x y z : Operand} {ts : Array TypeId} {a : Str} {r : Bool}
theorem E_pathW (hx : oget T x = some (sv a)) (ha : a.length ≤ 100000) (hr : pathB a = r) :
    Ef Try.prog n w0 M T H ⟨dd, .call ⟨.value (.func 75), #[x], ts⟩, tt, pos, af, g⟩ (fun u H' => u = .bool r ∧ H' = H) := by
  refine (E_gv ⟨_, Try.func75, rfl, by kernel_rfl⟩ (vs := [sv a]) (by simp [ogets, hx]) fun w hS => path_any w a ha).mono ?_
  rintro v H' ⟨_, rfl, _, rfl⟩ w hS
  exact ⟨_, _, rfl, ⟨by rw [hr], rfl⟩, hS⟩
theorem E_rpathW (hx : oget T x = some (sv a)) (ha : a.length ≤ 100000) (hr : pathB a = r) :
    Ef Try.prog n w0 M T H ⟨dd, .call ⟨.value (.func 46), #[x], ts⟩, tt, pos, af, g⟩ (fun u H' => u = .bool r ∧ H' = H) := by
  refine (E_gv ⟨_, Try.func46, rfl, by kernel_rfl⟩ (vs := [sv a]) (by simp [ogets, hx]) fun w hS => rpath_any w a ha).mono ?_
  rintro v H' ⟨_, rfl, _, rfl⟩ w hS
  exact ⟨_, _, rfl, ⟨by rw [hr], rfl⟩, hS⟩
end
end Go.Proofs.Ytghfjfgpiomdhaa

namespace Go.Proofs.Ytghfjfgpiomdhaa
open Go.RowKit
open Asn (pt row rb)
set_option linter.unusedVariables false
set_option linter.unusedSimpArgs false
--@use N

theorem ogets_cap (T : Slots) (x : Operand) (v : Value) (hx : oget T x = some v) : ∀ cap : List Value, ogets T (#[x] ++ (cap.map Operand.const).toArray).toList = some (v :: cap) := fun cap => by
  have h : ogets T (cap.map Operand.const) = some cap := by
    induction cap with
    | nil => rfl
    | cons u l ih => simp [ogets, ih, oget]
  simp [ogets, hx, h]
/-! which rows are wrong by themselves -/
def badR (x : Rw) : Bool := decide (256 < x.2.length)
def badC (x : Ch) : Bool := decide (256 < x.2.2.length) || (!x.2.1 && decide (x.2.2 ≠ []))
/-- each is a path and above the one ahead, as far as k -/
def stepB (ps : List Str) (i : Nat) : Bool := pathB (ps.getD i []) && (decide (i = 0) || Op.bytesLess (ps.getD (i - 1) []) (ps.getD i []))
def incN (ps : List Str) (k : Nat) : Bool := (List.range k).all (stepB ps)
theorem inc_next (ps : List Str) (k : Nat) : incN ps (k + 1) = (incN ps k && stepB ps k) := by
  rw [incN, List.range_succ, List.all_append, incN]
  simp
theorem inc_bad {ps : List Str} {j n : Nat} (hj : j < n) (h : stepB ps j = false) : incN ps n = false := by
  rw [incN, List.all_eq_false]
  exact ⟨j, List.mem_range.2 hj, by simp [h]⟩
def risB (ps : List Str) : Bool := decide (ps.length ≤ 32) && incN ps ps.length
/-- may be a map; an edit -/
def chkR (L : List Rw) : Bool := L.all (fun x => !badR x) && risB (L.map (·.1))
def chkC (L : List Ch) : Bool := L.all (fun x => !badC x) && risB (L.map (·.1))
set_option maxRecDepth 100000 in
set_option maxHeartbeats 4000000 in
theorem rowPath_any (w : World) (x : Rw) :
    Gives Try.prog 54 [.agg (rwc x).toArray] [] w (X := Unit) (fun _ => sv x.1) (fun _ => True) (fun _ => []) := by
  refine gives_S Try.func54 rfl Try.ntmps54 Try.results54 (by simp) (St.enter w) (fun B hB => ?_)
  focus (refine S_seq rfl ?_; refine S_region rfl rfl ?_; (refine R_eff (E_boxa rfl) ?_ rfl rfl; rintro _ _ ⟨b, rfl, rfl⟩); refine R_p rfl ?_ rfl rfl; refine R_nil ?_; refine S_seq rfl ?_; refine S_region rfl rfl ?_; refine R_p rfl ?_ rfl rfl; refine R_take (T_load rfl rfl rfl (by first | rfl | assumption)) ?_ rfl rfl; refine R_p rfl ?_ rfl rfl; refine R_nil ?_)
  exact hB _ _ _ _ _ rfl rfl fun w' hS => ⟨(), rfl, trivial, hS.sublist (List.nil_sublist _)⟩
set_option maxRecDepth 100000 in
set_option maxHeartbeats 4000000 in
theorem chPath_any (w : World) (x : Ch) :
    Gives Try.prog 71 [.agg (chc x).toArray] [] w (X := Unit) (fun _ => sv x.1) (fun _ => True) (fun _ => []) := by
  refine gives_S Try.func71 rfl Try.ntmps71 Try.results71 (by simp) (St.enter w) (fun B hB => ?_)
  focus (refine S_seq rfl ?_; refine S_region rfl rfl ?_; (refine R_eff (E_boxa rfl) ?_ rfl rfl; rintro _ _ ⟨b, rfl, rfl⟩); refine R_p rfl ?_ rfl rfl; refine R_nil ?_; refine S_seq rfl ?_; refine S_region rfl rfl ?_; refine R_p rfl ?_ rfl rfl; refine R_take (T_load rfl rfl rfl (by first | rfl | assumption)) ?_ rfl rfl; refine R_p rfl ?_ rfl rfl; refine R_nil ?_)
  exact hB _ _ _ _ _ rfl rfl fun w' hS => ⟨(), rfl, trivial, hS.sublist (List.nil_sublist _)⟩
set_option maxRecDepth 100000 in
set_option maxHeartbeats 4000000 in
theorem badR_any (w : World) (x : Rw) :
    Gives Try.prog 53 [.agg (rwc x).toArray] [] w (X := Unit) (fun _ => .bool (badR x)) (fun _ => True) (fun _ => []) := by
  refine gives_S Try.func53 rfl Try.ntmps53 Try.results53 (by simp) (St.enter w) (fun B hB => ?_)
  focus (refine S_seq rfl ?_; refine S_region rfl rfl ?_; (refine R_eff (E_boxa rfl) ?_ rfl rfl; rintro _ _ ⟨b, rfl, rfl⟩); refine R_p rfl ?_ rfl rfl; refine R_nil ?_; refine S_seq rfl ?_; refine S_region rfl rfl ?_; refine R_p rfl ?_ rfl rfl; refine R_take (T_load rfl rfl rfl (by first | rfl | assumption)) ?_ rfl rfl; refine R_take (T_lens rfl rfl rfl) ?_ rfl rfl; refine R_p rfl ?_ rfl rfl; refine R_p rfl ?_ rfl rfl; refine R_nil ?_)
  refine hB _ _ _ _ _ rfl rfl fun w' hS => ⟨(), ?_, trivial, hS.sublist (List.nil_sublist _)⟩
  refine congrArg Value.bool ?_
  rw [badR, Bool.eq_iff_iff]
  simp
  omega
set_option maxRecDepth 100000 in
set_option maxHeartbeats 4000000 in
theorem badC_any (w : World) (x : Ch) :
    Gives Try.prog 70 [.agg (chc x).toArray] [] w (X := Unit) (fun _ => .bool (badC x)) (fun _ => True) (fun _ => []) := by
  refine gives_S Try.func70 rfl Try.ntmps70 Try.results70 (by simp) (St.enter w) (fun B hB => ?_)
  obtain ⟨p, is, t⟩ := x
  have hln : ∀ q : Bool, decide (256 < t.length) = q → badC (p, is, t) = (q || (!is && decide (t ≠ []))) := fun q h => by rw [badC, h]
  have hn0 : scmp .neq t [] = some (decide (t ≠ [])) := rfl
  have hh : (256 : Int) < ((p, is, t).2.2.length : Int) ↔ 256 < t.length := by show (256 : Int) < (t.length : Int) ↔ _; omega
  cases is
  all_goals skip
  · focus (refine S_seq rfl ?_; refine S_region rfl rfl ?_; (refine R_eff (E_boxa rfl) ?_ rfl rfl; rintro _ _ ⟨b, rfl, rfl⟩); refine R_p rfl ?_ rfl rfl; refine R_nil ?_; refine S_seq rfl ?_; refine S_region rfl rfl ?_; refine R_p rfl ?_ rfl rfl; refine R_take (T_load rfl rfl rfl (by first | rfl | assumption)) ?_ rfl rfl; refine R_take (T_lens rfl rfl rfl) ?_ rfl rfl; refine R_p rfl ?_ rfl rfl; refine R_p rfl ?_ rfl rfl; (refine R_splitd rfl rfl (fun hs => ?_) (fun hs => ?_)); refine R_skip ?_ rfl rfl; refine R_skip ?_ rfl rfl; refine R_skip ?_ rfl rfl; refine R_skip ?_ rfl rfl; refine R_skip ?_ rfl rfl; refine R_skip ?_ rfl rfl; refine R_skip ?_ rfl rfl; refine R_skip ?_ rfl rfl; refine R_p rfl ?_ rfl rfl; refine R_p rfl ?_ rfl rfl; refine R_nil ?_; rotate_left; refine R_p rfl ?_ rfl rfl; refine R_take (T_load rfl rfl rfl (by first | rfl | assumption)) ?_ rfl rfl; refine R_take (T_not rfl) ?_ rfl rfl; refine R_p rfl ?_ rfl rfl; refine R_p rfl ?_ rfl rfl; refine R_take (T_load rfl rfl rfl (by first | rfl | assumption)) ?_ rfl rfl; refine R_p rfl ?_ rfl rfl; refine R_p rfl ?_ rfl rfl; refine R_p rfl ?_ rfl rfl; refine R_p rfl ?_ rfl rfl; refine R_nil ?_; rotate_left)
    all_goals (refine hB _ _ _ _ _ rfl rfl fun w' hS => ⟨(), ?_, trivial, hS.sublist (List.nil_sublist _)⟩)
    · rw [hln true (decide_eq_true (hh.1 hs))]
      rfl
    · rw [hln false (decide_eq_false (fun h => hs (hh.2 h)))]
      rfl
  · focus (refine S_seq rfl ?_; refine S_region rfl rfl ?_; (refine R_eff (E_boxa rfl) ?_ rfl rfl; rintro _ _ ⟨b, rfl, rfl⟩); refine R_p rfl ?_ rfl rfl; refine R_nil ?_; refine S_seq rfl ?_; refine S_region rfl rfl ?_; refine R_p rfl ?_ rfl rfl; refine R_take (T_load rfl rfl rfl (by first | rfl | assumption)) ?_ rfl rfl; refine R_take (T_lens rfl rfl rfl) ?_ rfl rfl; refine R_p rfl ?_ rfl rfl; refine R_p rfl ?_ rfl rfl; (refine R_splitd rfl rfl (fun hs => ?_) (fun hs => ?_)); refine R_skip ?_ rfl rfl; refine R_skip ?_ rfl rfl; refine R_skip ?_ rfl rfl; refine R_skip ?_ rfl rfl; refine R_skip ?_ rfl rfl; refine R_skip ?_ rfl rfl; refine R_skip ?_ rfl rfl; refine R_skip ?_ rfl rfl; refine R_p rfl ?_ rfl rfl; refine R_p rfl ?_ rfl rfl; refine R_nil ?_; rotate_left; refine R_p rfl ?_ rfl rfl; refine R_take (T_load rfl rfl rfl (by first | rfl | assumption)) ?_ rfl rfl; refine R_take (T_not rfl) ?_ rfl rfl; refine R_p rfl ?_ rfl rfl; refine R_skip ?_ rfl rfl; refine R_skip ?_ rfl rfl; refine R_skip ?_ rfl rfl; refine R_p rfl ?_ rfl rfl; refine R_p rfl ?_ rfl rfl; refine R_p rfl ?_ rfl rfl; refine R_nil ?_; rotate_left)
    all_goals (refine hB _ _ _ _ _ rfl rfl fun w' hS => ⟨(), ?_, trivial, hS.sublist (List.nil_sublist _)⟩)
    · rw [hln true (decide_eq_true (hh.1 hs))]
      rfl
    · rw [hln false (decide_eq_false (fun h => hs (hh.2 h)))]
      rfl
/-- where one is, of which something is so -/
def idxR (p : Rw → Bool) (L : List Rw) : Int := if L.all (fun x => !p x) then -1 else (L.findIdx p : Nat)
set_option maxRecDepth 100000 in
set_option maxHeartbeats 4000000 in
theorem idxfR_any (w : World) (A : Option Addr) (n c f : Nat) (cap : List Value) (L : List Rw) (p : Rw → Bool) (h : Rd w All 2 A n (cellsL rwc L)) (hn : n ≤ 100000) (hf : Fn_ Try.prog f)
    (hp : ∀ w', Kp All w w' → ∀ x ∈ L, Gives Try.prog f (.agg (rwc x).toArray :: cap) [] w' (X := Unit) (fun _ => .bool (p x)) (fun _ => True) (fun _ => [])) :
    Gives Try.prog 56 [.slice A n c, .func (.func f) #[] cap.toArray] [] w (X := Unit) (fun _ => zi (idxR p L)) (fun _ => True) (fun _ => []) := by
  refine gives_S Try.func56 rfl Try.ntmps56 Try.results56 (by simp) (St.enter w) (fun B hB => ?_)
  have hl : L.length = n := by have := h.1; rw [cellsL_len rwc_len] at this; omega
  have hne : 0 < n → A ≠ none := fun h0 => by obtain ⟨ad, rfl, _⟩ := h.2 (by omega); simp
  subst hl
  focus (refine S_seq rfl ?_; refine S_region rfl rfl ?_; refine R_p rfl ?_ rfl rfl; refine R_nil ?_; refine S_seq rfl ?_; refine S_seq rfl ?_; refine S_region rfl rfl ?_; refine R_p rfl ?_ rfl rfl; refine R_p rfl ?_ rfl rfl; refine R_p rfl ?_ rfl rfl; refine R_nil ?_; refine S_block rfl ?_)
  refine S_loop (X := Nat) (fun j => [(0, .slice A L.length c), (1, .func (.func f) #[] cap.toArray), (7, .int .i64 (L.length : Int)), (8, .int .i64 (j : Int))]) (fun _ => []) (fun j => j ≤ L.length ∧ (L.take j).all (fun x => !p x) = true) (fun j => L.length - j) rfl 0 ⟨Nat.zero_le _, rfl⟩ (Sub.cons rfl (Sub.cons rfl (Sub.cons rfl (Sub.cons rfl Sub.nil)))) (fun _ h => h) ?_
  rintro j ⟨hj, hok⟩ J hJ
  rcases Nat.lt_or_ge j L.length with hjl | hjl
  · have hne := hne (by omega)
    have hat := cellsL_at (f := rwc) rwc_len L default j hjl
    have hmem : L.getD j default ∈ L := by simp [List.getD, hjl]
    have htk : L.take (j + 1) = L.take j ++ [L.getD j default] := by rw [List.take_succ_eq_append_getElem hjl]; simp [List.getD, hjl]
    have hsp : L = L.take j ++ L.getD j default :: L.drop (j + 1) := by
      conv => lhs; rw [← List.take_append_drop j L, List.drop_eq_getElem_cons hjl]
      simp [List.getD, hjl]
    obtain ⟨x, hx⟩ : ∃ x, L.getD j default = x := ⟨_, rfl⟩
    rw [hx] at hat hmem htk hsp
    obtain ⟨r, hr⟩ : ∃ r, p x = r := ⟨_, rfl⟩
    cases r
    · focus (refine S_seq rfl ?_; refine S_region rfl rfl ?_; refine R_take (T_decT rfl (by omega)) ?_ rfl rfl; refine R_nil ?_; refine S_seq rfl ?_; refine S_true rfl rfl ?_; refine S_skip rfl ?_; refine S_seq rfl ?_; refine S_block rfl ?_; refine S_seq rfl ?_; refine S_region rfl rfl ?_; refine R_p rfl ?_ rfl rfl; refine R_p rfl ?_ rfl rfl; refine R_nil ?_; refine S_seq rfl ?_; refine S_region rfl rfl ?_; refine R_p rfl ?_ rfl rfl; refine R_p rfl ?_ rfl rfl; refine R_p rfl ?_ rfl rfl; refine R_take (T_ixM (sz := 2) rfl rfl rfl rfl rfl rfl hne hjl) ?_ rfl rfl; refine R_take (T_lda (ds := rwc x) rfl rfl rfl (Srd.old h (fun k _ => noOwns k)) rfl (by omega) hat) ?_ rfl rfl; (refine R_eff (E_cloA (cap := cap) rfl (E_gv0 hf (ogets_cap _ _ (.agg (rwc x).toArray) rfl cap) (fun w' hS => hp w' hS.kpO x hmem) (fun _ => rfl))) ?_ rfl rfl; rintro _ _ ⟨_, rfl, _, rfl⟩; rw [hr]); refine R_nil ?_; refine S_false rfl rfl ?_; refine S_skip rfl ?_; refine RS_blk ?_; refine S_region rfl rfl ?_; refine R_take (T_addN rfl rfl (by unfold fits; omega)) ?_ rfl rfl; refine R_p rfl ?_ rfl rfl; refine R_nil ?_)
      exact hJ (j + 1) _ _ ⟨by omega, by rw [htk, List.all_append, hok]; simp [hr]⟩ (Sub.cons rfl (Sub.cons rfl (Sub.cons rfl (Sub.cons rfl Sub.nil)))) (fun _ h => h) (by omega)
    · focus (refine S_seq rfl ?_; refine S_region rfl rfl ?_; refine R_take (T_decT rfl (by omega)) ?_ rfl rfl; refine R_nil ?_; refine S_seq rfl ?_; refine S_true rfl rfl ?_; refine S_skip rfl ?_; refine S_seq rfl ?_; refine S_block rfl ?_; refine S_seq rfl ?_; refine S_region rfl rfl ?_; refine R_p rfl ?_ rfl rfl; refine R_p rfl ?_ rfl rfl; refine R_nil ?_; refine S_seq rfl ?_; refine S_region rfl rfl ?_; refine R_p rfl ?_ rfl rfl; refine R_p rfl ?_ rfl rfl; refine R_p rfl ?_ rfl rfl; refine R_take (T_ixM (sz := 2) rfl rfl rfl rfl rfl rfl hne hjl) ?_ rfl rfl; refine R_take (T_lda (ds := rwc x) rfl rfl rfl (Srd.old h (fun k _ => noOwns k)) rfl (by omega) hat) ?_ rfl rfl; (refine R_eff (E_cloA (cap := cap) rfl (E_gv0 hf (ogets_cap _ _ (.agg (rwc x).toArray) rfl cap) (fun w' hS => hp w' hS.kpO x hmem) (fun _ => rfl))) ?_ rfl rfl; rintro _ _ ⟨_, rfl, _, rfl⟩; rw [hr]); refine R_nil ?_; refine S_true rfl rfl ?_; refine S_seq rfl ?_; refine S_region rfl rfl ?_; refine R_p rfl ?_ rfl rfl; refine R_p rfl ?_ rfl rfl; refine R_nil ?_)
      refine hB _ _ _ _ _ rfl rfl fun w' hS => ⟨(), ?_, trivial, hS.sublist (List.nil_sublist _)⟩
      show Value.int _ _ = Value.int _ _
      congr 1
      have h1 : ¬ L.all (fun x => !p x) = true := by
        rw [List.all_eq_true]
        intro h
        have := h x hmem
        rw [hr] at this
        cases this
      rw [idxR, if_neg h1, hsp, List.findIdx_append]
      have h2 : (L.take j).findIdx p = (L.take j).length := by
        rw [List.findIdx_eq_length]
        intro y hy
        have := List.all_eq_true.1 hok y hy
        simpa using this
      rw [h2, if_neg (Nat.lt_irrefl _), List.findIdx_cons, hr]
      simp
      omega
  have hjn : j = L.length := by omega
  subst hjn
  rw [List.take_length] at hok
  focus (refine S_seq rfl ?_; refine S_region rfl rfl ?_; refine R_take (T_decF rfl (by omega)) ?_ rfl rfl; refine R_nil ?_; refine S_seq rfl ?_; refine S_false rfl rfl ?_; refine S_exit rfl rfl ?_; refine S_seq rfl ?_; refine S_region rfl rfl ?_; refine R_p rfl ?_ rfl rfl; refine R_nil ?_)
  refine hB _ _ _ _ _ rfl rfl fun w' hS => ⟨(), ?_, trivial, hS.sublist (List.nil_sublist _)⟩
  rw [idxR, if_pos hok]
  rfl
set_option maxRecDepth 100000 in
set_option maxHeartbeats 4000000 in
theorem confR_any (w : World) (A : Option Addr) (n c f : Nat) (cap : List Value) (L : List Rw) (p : Rw → Bool) (h : Rd w All 2 A n (cellsL rwc L)) (hn : n ≤ 100000) (hf : Fn_ Try.prog f)
    (hp : ∀ w', Kp All w w' → ∀ x ∈ L, Gives Try.prog f (.agg (rwc x).toArray :: cap) [] w' (X := Unit) (fun _ => .bool (p x)) (fun _ => True) (fun _ => [])) :
    Gives Try.prog 52 [.slice A n c, .func (.func f) #[] cap.toArray] [] w (X := Unit) (fun _ => .bool (!L.all (fun x => !p x))) (fun _ => True) (fun _ => []) := by
  refine gives_S Try.func52 rfl Try.ntmps52 Try.results52 (by simp) (St.enter w) (fun B hB => ?_)
  focus (refine S_seq rfl ?_; refine S_region rfl rfl ?_; refine R_p rfl ?_ rfl rfl; refine R_nil ?_; refine S_seq rfl ?_; refine S_region rfl rfl ?_; refine R_p rfl ?_ rfl rfl; refine R_p rfl ?_ rfl rfl; (refine R_eff (E_gv0 (f := 56) ⟨_, Try.func56, rfl, by kernel_rfl⟩ rfl (fun w hS => idxfR_any w A n c f cap L p ((Srd.old h (fun k _ => noOwns k)).rd w hS) hn hf (fun w' hk x hx => hp w' (hS.kpO.trans hk) x hx)) (fun _ => rfl)) ?_ rfl rfl; rintro _ _ ⟨_, rfl, _, rfl⟩); refine R_p rfl ?_ rfl rfl; refine R_p rfl ?_ rfl rfl; refine R_nil ?_)
  refine hB _ _ _ _ _ rfl rfl fun w' hS => ⟨(), ?_, trivial, hS.sublist (List.nil_sublist _)⟩
  refine congrArg Value.bool ?_
  rw [idxR]
  cases L.all (fun x => !p x)
  · simp
  · simp
/-- where one is, of which something is so -/
def idxC (p : Ch → Bool) (L : List Ch) : Int := if L.all (fun x => !p x) then -1 else (L.findIdx p : Nat)
set_option maxRecDepth 100000 in
set_option maxHeartbeats 4000000 in
theorem idxfC_any (w : World) (A : Option Addr) (n c f : Nat) (cap : List Value) (L : List Ch) (p : Ch → Bool) (h : Rd w All 3 A n (cellsL chc L)) (hn : n ≤ 100000) (hf : Fn_ Try.prog f)
    (hp : ∀ w', Kp All w w' → ∀ x ∈ L, Gives Try.prog f (.agg (chc x).toArray :: cap) [] w' (X := Unit) (fun _ => .bool (p x)) (fun _ => True) (fun _ => [])) :
    Gives Try.prog 44 [.slice A n c, .func (.func f) #[] cap.toArray] [] w (X := Unit) (fun _ => zi (idxC p L)) (fun _ => True) (fun _ => []) := by
  refine gives_S Try.func44 rfl Try.ntmps44 Try.results44 (by simp) (St.enter w) (fun B hB => ?_)
  have hl : L.length = n := by have := h.1; rw [cellsL_len chc_len] at this; omega
  have hne : 0 < n → A ≠ none := fun h0 => by obtain ⟨ad, rfl, _⟩ := h.2 (by omega); simp
  subst hl
  focus (refine S_seq rfl ?_; refine S_region rfl rfl ?_; refine R_p rfl ?_ rfl rfl; refine R_nil ?_; refine S_seq rfl ?_; refine S_seq rfl ?_; refine S_region rfl rfl ?_; refine R_p rfl ?_ rfl rfl; refine R_p rfl ?_ rfl rfl; refine R_p rfl ?_ rfl rfl; refine R_nil ?_; refine S_block rfl ?_)
  refine S_loop (X := Nat) (fun j => [(0, .slice A L.length c), (1, .func (.func f) #[] cap.toArray), (7, .int .i64 (L.length : Int)), (8, .int .i64 (j : Int))]) (fun _ => []) (fun j => j ≤ L.length ∧ (L.take j).all (fun x => !p x) = true) (fun j => L.length - j) rfl 0 ⟨Nat.zero_le _, rfl⟩ (Sub.cons rfl (Sub.cons rfl (Sub.cons rfl (Sub.cons rfl Sub.nil)))) (fun _ h => h) ?_
  rintro j ⟨hj, hok⟩ J hJ
  rcases Nat.lt_or_ge j L.length with hjl | hjl
  · have hne := hne (by omega)
    have hat := cellsL_at (f := chc) chc_len L default j hjl
    have hmem : L.getD j default ∈ L := by simp [List.getD, hjl]
    have htk : L.take (j + 1) = L.take j ++ [L.getD j default] := by rw [List.take_succ_eq_append_getElem hjl]; simp [List.getD, hjl]
    have hsp : L = L.take j ++ L.getD j default :: L.drop (j + 1) := by
      conv => lhs; rw [← List.take_append_drop j L, List.drop_eq_getElem_cons hjl]
      simp [List.getD, hjl]
    obtain ⟨x, hx⟩ : ∃ x, L.getD j default = x := ⟨_, rfl⟩
    rw [hx] at hat hmem htk hsp
    obtain ⟨r, hr⟩ : ∃ r, p x = r := ⟨_, rfl⟩
    cases r
    · focus (refine S_seq rfl ?_; refine S_region rfl rfl ?_; refine R_take (T_decT rfl (by omega)) ?_ rfl rfl; refine R_nil ?_; refine S_seq rfl ?_; refine S_true rfl rfl ?_; refine S_skip rfl ?_; refine S_seq rfl ?_; refine S_block rfl ?_; refine S_seq rfl ?_; refine S_region rfl rfl ?_; refine R_p rfl ?_ rfl rfl; refine R_p rfl ?_ rfl rfl; refine R_nil ?_; refine S_seq rfl ?_; refine S_region rfl rfl ?_; refine R_p rfl ?_ rfl rfl; refine R_p rfl ?_ rfl rfl; refine R_p rfl ?_ rfl rfl; refine R_take (T_ixM (sz := 3) rfl rfl rfl rfl rfl rfl hne hjl) ?_ rfl rfl; refine R_take (T_lda (ds := chc x) rfl rfl rfl (Srd.old h (fun k _ => noOwns k)) rfl (by omega) hat) ?_ rfl rfl; (refine R_eff (E_cloA (cap := cap) rfl (E_gv0 hf (ogets_cap _ _ (.agg (chc x).toArray) rfl cap) (fun w' hS => hp w' hS.kpO x hmem) (fun _ => rfl))) ?_ rfl rfl; rintro _ _ ⟨_, rfl, _, rfl⟩; rw [hr]); refine R_nil ?_; refine S_false rfl rfl ?_; refine S_skip rfl ?_; refine RS_blk ?_; refine S_region rfl rfl ?_; refine R_take (T_addN rfl rfl (by unfold fits; omega)) ?_ rfl rfl; refine R_p rfl ?_ rfl rfl; refine R_nil ?_)
      exact hJ (j + 1) _ _ ⟨by omega, by rw [htk, List.all_append, hok]; simp [hr]⟩ (Sub.cons rfl (Sub.cons rfl (Sub.cons rfl (Sub.cons rfl Sub.nil)))) (fun _ h => h) (by omega)
    · focus (refine S_seq rfl ?_; refine S_region rfl rfl ?_; refine R_take (T_decT rfl (by omega)) ?_ rfl rfl; refine R_nil ?_; refine S_seq rfl ?_; refine S_true rfl rfl ?_; refine S_skip rfl ?_; refine S_seq rfl ?_; refine S_block rfl ?_; refine S_seq rfl ?_; refine S_region rfl rfl ?_; refine R_p rfl ?_ rfl rfl; refine R_p rfl ?_ rfl rfl; refine R_nil ?_; refine S_seq rfl ?_; refine S_region rfl rfl ?_; refine R_p rfl ?_ rfl rfl; refine R_p rfl ?_ rfl rfl; refine R_p rfl ?_ rfl rfl; refine R_take (T_ixM (sz := 3) rfl rfl rfl rfl rfl rfl hne hjl) ?_ rfl rfl; refine R_take (T_lda (ds := chc x) rfl rfl rfl (Srd.old h (fun k _ => noOwns k)) rfl (by omega) hat) ?_ rfl rfl; (refine R_eff (E_cloA (cap := cap) rfl (E_gv0 hf (ogets_cap _ _ (.agg (chc x).toArray) rfl cap) (fun w' hS => hp w' hS.kpO x hmem) (fun _ => rfl))) ?_ rfl rfl; rintro _ _ ⟨_, rfl, _, rfl⟩; rw [hr]); refine R_nil ?_; refine S_true rfl rfl ?_; refine S_seq rfl ?_; refine S_region rfl rfl ?_; refine R_p rfl ?_ rfl rfl; refine R_p rfl ?_ rfl rfl; refine R_nil ?_)
      refine hB _ _ _ _ _ rfl rfl fun w' hS => ⟨(), ?_, trivial, hS.sublist (List.nil_sublist _)⟩
      show Value.int _ _ = Value.int _ _
      congr 1
      have h1 : ¬ L.all (fun x => !p x) = true := by
        rw [List.all_eq_true]
        intro h
        have := h x hmem
        rw [hr] at this
        cases this
      rw [idxC, if_neg h1, hsp, List.findIdx_append]
      have h2 : (L.take j).findIdx p = (L.take j).length := by
        rw [List.findIdx_eq_length]
        intro y hy
        have := List.all_eq_true.1 hok y hy
        simpa using this
      rw [h2, if_neg (Nat.lt_irrefl _), List.findIdx_cons, hr]
      simp
      omega
  have hjn : j = L.length := by omega
  subst hjn
  rw [List.take_length] at hok
  focus (refine S_seq rfl ?_; refine S_region rfl rfl ?_; refine R_take (T_decF rfl (by omega)) ?_ rfl rfl; refine R_nil ?_; refine S_seq rfl ?_; refine S_false rfl rfl ?_; refine S_exit rfl rfl ?_; refine S_seq rfl ?_; refine S_region rfl rfl ?_; refine R_p rfl ?_ rfl rfl; refine R_nil ?_)
  refine hB _ _ _ _ _ rfl rfl fun w' hS => ⟨(), ?_, trivial, hS.sublist (List.nil_sublist _)⟩
  rw [idxC, if_pos hok]
  rfl
set_option maxRecDepth 100000 in
set_option maxHeartbeats 4000000 in
theorem confC_any (w : World) (A : Option Addr) (n c f : Nat) (cap : List Value) (L : List Ch) (p : Ch → Bool) (h : Rd w All 3 A n (cellsL chc L)) (hn : n ≤ 100000) (hf : Fn_ Try.prog f)
    (hp : ∀ w', Kp All w w' → ∀ x ∈ L, Gives Try.prog f (.agg (chc x).toArray :: cap) [] w' (X := Unit) (fun _ => .bool (p x)) (fun _ => True) (fun _ => [])) :
    Gives Try.prog 69 [.slice A n c, .func (.func f) #[] cap.toArray] [] w (X := Unit) (fun _ => .bool (!L.all (fun x => !p x))) (fun _ => True) (fun _ => []) := by
  refine gives_S Try.func69 rfl Try.ntmps69 Try.results69 (by simp) (St.enter w) (fun B hB => ?_)
  focus (refine S_seq rfl ?_; refine S_region rfl rfl ?_; refine R_p rfl ?_ rfl rfl; refine R_nil ?_; refine S_seq rfl ?_; refine S_region rfl rfl ?_; refine R_p rfl ?_ rfl rfl; refine R_p rfl ?_ rfl rfl; (refine R_eff (E_gv0 (f := 44) ⟨_, Try.func44, rfl, by kernel_rfl⟩ rfl (fun w hS => idxfC_any w A n c f cap L p ((Srd.old h (fun k _ => noOwns k)).rd w hS) hn hf (fun w' hk x hx => hp w' (hS.kpO.trans hk) x hx)) (fun _ => rfl)) ?_ rfl rfl; rintro _ _ ⟨_, rfl, _, rfl⟩); refine R_p rfl ?_ rfl rfl; refine R_p rfl ?_ rfl rfl; refine R_nil ?_)
  refine hB _ _ _ _ _ rfl rfl fun w' hS => ⟨(), ?_, trivial, hS.sublist (List.nil_sublist _)⟩
  refine congrArg Value.bool ?_
  rw [idxC]
  cases L.all (fun x => !p x)
  · simp
  · simp
end Go.Proofs.Ytghfjfgpiomdhaa

namespace Go.Proofs.Ytghfjfgpiomdhaa
open Go.RowKit
open Asn (pt row rb)
set_option linter.unusedVariables false
set_option linter.unusedSimpArgs false
--@use N

theorem map_getD {α : Type} [Inhabited α] (L : List (Str × α)) (j : Nat) (hj : j < L.length) : (L.map (·.1)).getD j [] = (L.getD j default).1 := by
  simp [List.getD, hj]
theorem rwc_zero : ti70.zero = .agg (rwc default).toArray := by kernel_rfl
theorem chc_zero : ti73.zero = .agg (chc default).toArray := by kernel_rfl
theorem rwc_one (a : Rw) : ∀ u ∈ rwc a, u.oneCell' = true := by simp [rwc, sv, Value.oneCell']
theorem chc_one (a : Ch) : ∀ u ∈ chc a, u.oneCell' = true := by simp [chc, sv, Value.oneCell']
section
variable {n : Nat} {w0 : World} {M : Nat → Prop} {T : Slots} {H Hr : List Asn} {dd : Option Tmp} {tt : TypeId} {pos : String} {af : Array Edge} {g : Option (Nat × Bool)} {x y z : Operand} {ts : Array TypeId}
theorem E_crowPath {a : Rw} {s : Str} (hx : oget T x = some (.func (.func 54) #[] #[])) (hy : oget T y = some (.agg (rwc a).toArray)) (hs : a.1 = s) :
    Ef Try.prog n w0 M T H ⟨dd, .call ⟨.value x, #[y], ts⟩, tt, pos, af, g⟩ (fun u H' => u = sv s ∧ H' = H) := by
  subst hs
  refine (E_cloA (cap := []) hx (E_gv0 ⟨_, Try.func54, rfl, by kernel_rfl⟩ (ogets_cap _ _ (.agg (rwc a).toArray) hy []) (fun w' hS => rowPath_any w' a) (fun _ => rfl))).mono ?_
  rintro v H' ⟨_, rfl, _, rfl⟩ w hS
  exact ⟨_, _, rfl, ⟨rfl, rfl⟩, hS⟩
theorem E_cchangePath {a : Ch} {s : Str} (hx : oget T x = some (.func (.func 71) #[] #[])) (hy : oget T y = some (.agg (chc a).toArray)) (hs : a.1 = s) :
    Ef Try.prog n w0 M T H ⟨dd, .call ⟨.value x, #[y], ts⟩, tt, pos, af, g⟩ (fun u H' => u = sv s ∧ H' = H) := by
  subst hs
  refine (E_cloA (cap := []) hx (E_gv0 ⟨_, Try.func71, rfl, by kernel_rfl⟩ (ogets_cap _ _ (.agg (chc a).toArray) hy []) (fun w' hS => chPath_any w' a) (fun _ => rfl))).mono ?_
  rintro v H' ⟨_, rfl, _, rfl⟩ w hS
  exact ⟨_, _, rfl, ⟨rfl, rfl⟩, hS⟩
end
set_option maxRecDepth 100000 in
set_option maxHeartbeats 4000000 in
theorem risR_any (w : World) (A : Option Addr) (n c : Nat) (L : List Rw) (h : Rd w All 2 A n (cellsL rwc L)) (hn : n ≤ 100000) (hp : ∀ x ∈ L, x.1.length ≤ 100000) :
    Gives Try.prog 55 [.agg #[.slice A n c, .func (.func 54) #[] #[]]] [] w (X := Unit) (fun _ => .bool (risB (L.map (·.1)))) (fun _ => True) (fun _ => []) := by
  refine gives_S Try.func55 rfl Try.ntmps55 Try.results55 (by simp) (St.enter w) (fun B hB => ?_)
  have hl : L.length = n := by have := h.1; rw [cellsL_len rwc_len] at this; omega
  have hne : 0 < n → A ≠ none := fun h0 => by obtain ⟨ad, rfl, _⟩ := h.2 (by omega); simp
  subst hl
  have hr0 : ∀ q : Bool, (L.length ≤ 32 → incN (L.map (·.1)) L.length = q) → (L.length ≤ 32 ∨ q = false) → risB (L.map (·.1)) = q := fun q h1 h2 => by
    rw [risB, List.length_map]
    rcases Nat.lt_or_ge 32 L.length with h3 | h3
    · rw [decide_eq_false (by omega), Bool.false_and]
      rcases h2 with h2 | rfl
      · omega
      · rfl
    · rw [decide_eq_true h3, h1 h3, Bool.true_and]
  rcases Nat.lt_or_ge 32 L.length with h32 | h32
  · skip
    focus (refine S_seq rfl ?_; refine S_region rfl rfl ?_; (refine R_eff (E_boxa (cs := [.slice A L.length c, .func (.func 54) #[] #[]]) rfl) ?_ rfl rfl; rintro _ _ ⟨b, rfl, rfl⟩); refine R_p rfl ?_ rfl rfl; refine R_nil ?_; refine S_seq rfl ?_; refine S_seq rfl ?_; refine S_region rfl rfl ?_; refine R_p rfl ?_ rfl rfl; refine R_take (T_load rfl rfl rfl (by first | rfl | assumption)) ?_ rfl rfl; refine R_p rfl ?_ rfl rfl; refine R_take (T_decT rfl (by omega)) ?_ rfl rfl; refine R_nil ?_; refine S_true rfl rfl ?_; refine S_seq rfl ?_; refine S_region rfl rfl ?_; refine R_p rfl ?_ rfl rfl; refine R_nil ?_)
    refine hB _ _ _ _ _ rfl rfl fun w' hS => ⟨(), ?_, trivial, hS.sublist (List.nil_sublist _)⟩
    rw [hr0 false (fun h => by omega) (.inr rfl)]
    rfl
  focus (refine S_seq rfl ?_; refine S_region rfl rfl ?_; (refine R_eff (E_boxa (cs := [.slice A L.length c, .func (.func 54) #[] #[]]) rfl) ?_ rfl rfl; rintro _ _ ⟨b, rfl, rfl⟩); refine R_p rfl ?_ rfl rfl; refine R_nil ?_; refine S_seq rfl ?_; refine S_seq rfl ?_; refine S_region rfl rfl ?_; refine R_p rfl ?_ rfl rfl; refine R_take (T_load rfl rfl rfl (by first | rfl | assumption)) ?_ rfl rfl; refine R_p rfl ?_ rfl rfl; refine R_take (T_decF rfl (by omega)) ?_ rfl rfl; refine R_nil ?_; refine S_false rfl rfl ?_; refine S_skip rfl ?_; refine S_seq rfl ?_; refine S_seq rfl ?_; refine S_region rfl rfl ?_; refine R_p rfl ?_ rfl rfl; refine R_take (T_load rfl rfl rfl (by first | rfl | assumption)) ?_ rfl rfl; refine R_p rfl ?_ rfl rfl; refine R_p rfl ?_ rfl rfl; refine R_nil ?_; refine S_block rfl ?_)
  refine S_loop (X := Nat) (fun j => [(1, .pointer (some ⟨b, 0, none⟩)), (10, .slice A L.length c), (11, .int .i64 (L.length : Int)), (12, .int .i64 (j : Int))]) (fun _ => [pt b 100 [.slice A L.length c, .func (.func 54) #[] #[]]]) (fun j => j ≤ L.length ∧ incN (L.map (·.1)) j = true) (fun j => L.length - j) rfl 0 ⟨Nat.zero_le _, rfl⟩ (Sub.cons rfl (Sub.cons rfl (Sub.cons rfl (Sub.cons rfl Sub.nil)))) sub_st ?_
  rintro j ⟨hj, hok⟩ J hJ
  rcases Nat.lt_or_ge j L.length with hjl | hjl
  · have hne := hne (by omega)
    have hat := cellsL_at (f := rwc) rwc_len L default j hjl
    have hmem : L.getD j default ∈ L := by simp [List.getD, hjl]
    have hnx := inc_next (L.map (·.1)) j
    rw [hok, Bool.true_and, stepB, map_getD L j hjl] at hnx
    have hbd := fun hb => inc_bad (ps := L.map (·.1)) (j := j) (n := L.length) hjl hb
    rw [stepB, map_getD L j hjl] at hbd
    have hpl := hp _ hmem
    obtain ⟨x, hx⟩ : ∃ x, L.getD j default = x := ⟨_, rfl⟩
    rw [hx] at hat hmem hnx hbd hpl
    obtain ⟨s, hxs⟩ : ∃ s, x.1 = s := ⟨_, rfl⟩
    rw [hxs] at hnx hbd hpl
    obtain ⟨r, hr⟩ : ∃ r, pathB s = r := ⟨_, rfl⟩
    rw [hr] at hnx hbd
    focus (refine S_seq rfl ?_; refine S_region rfl rfl ?_; refine R_take (T_decT rfl (by omega)) ?_ rfl rfl; refine R_nil ?_; refine S_seq rfl ?_; refine S_true rfl rfl ?_; refine S_skip rfl ?_; refine S_seq rfl ?_; refine S_block rfl ?_; refine S_seq rfl ?_; refine S_region rfl rfl ?_; refine R_p rfl ?_ rfl rfl; refine R_take (T_ixM (sz := 2) rfl rfl rfl rfl rfl rfl hne hjl) ?_ rfl rfl; refine R_take (T_lda (ds := rwc x) rfl rfl rfl (Srd.old h (fun k _ => noOwns k)) rfl (by omega) hat) ?_ rfl rfl; (refine R_eff (E_alloca rfl rwc_zero) ?_ rfl rfl; rintro _ _ ⟨b4, rfl, rfl⟩); refine R_p rfl ?_ rfl rfl; (refine R_eff0 (E_storew (cs := rwc default) (ds := rwc x) rfl rfl rfl rfl (rwc_one _) rfl) ?_ rfl; rintro _ _ rfl); refine R_nil ?_; refine S_seq rfl ?_)
    cases r
    · skip
      refine S_draw ([pt b4 70 (rwc x), pt b 100 [.slice A L.length c, .func (.func 54) #[] #[]]]) sub_st (by kernel_rfl) rfl (by kernel_rfl) (by kernel_rfl : _ = 26) ?_
      refine D_take 0 rfl (pev_ok rfl) ?_ rfl rfl (by kernel_rfl) (by kernel_rfl)
      refine D_take 1 rfl (T_load rfl rfl rfl (by first | rfl | assumption)) ?_ rfl rfl (by kernel_rfl) (by kernel_rfl)
      refine D_take 2 rfl (T_loada (ds := rwc x) rfl rfl rfl rfl (fun j v h => by simpa using h)) ?_ rfl rfl (by kernel_rfl) (by kernel_rfl)
      refine D_one 3 rfl (E_crowPath (a := x) rfl rfl hxs) ?_ rfl rfl (by kernel_rfl)
      rintro _ _ ⟨rfl, rfl⟩
      refine Nx_same sub_st ?_
      refine D_one 4 rfl (E_pathW (a := s) (r := false) rfl hpl hr) ?_ rfl rfl (by kernel_rfl)
      rintro _ _ ⟨rfl, rfl⟩
      refine Nx_same sub_st ?_
      refine D_take 5 rfl (T_not rfl) ?_ rfl rfl (by kernel_rfl) (by kernel_rfl)
      refine D_take 6 rfl (pev_ok rfl) ?_ rfl rfl (by kernel_rfl) (by kernel_rfl)
      refine D_skip 7 rfl ?_ rfl rfl (by kernel_rfl) (by kernel_rfl)
      refine D_skip 8 rfl ?_ rfl rfl (by kernel_rfl) (by kernel_rfl)
      refine D_skip 9 rfl ?_ rfl rfl (by kernel_rfl) (by kernel_rfl)
      refine D_skip 10 rfl ?_ rfl rfl (by kernel_rfl) (by kernel_rfl)
      refine D_skip 11 rfl ?_ rfl rfl (by kernel_rfl) (by kernel_rfl)
      refine D_skip 12 rfl ?_ rfl rfl (by kernel_rfl) (by kernel_rfl)
      refine D_skip 13 rfl ?_ rfl rfl (by kernel_rfl) (by kernel_rfl)
      refine D_skip 14 rfl ?_ rfl rfl (by kernel_rfl) (by kernel_rfl)
      refine D_skip 15 rfl ?_ rfl rfl (by kernel_rfl) (by kernel_rfl)
      refine D_skip 16 rfl ?_ rfl rfl (by kernel_rfl) (by kernel_rfl)
      refine D_skip 17 rfl ?_ rfl rfl (by kernel_rfl) (by kernel_rfl)
      refine D_skip 18 rfl ?_ rfl rfl (by kernel_rfl) (by kernel_rfl)
      refine D_skip 19 rfl ?_ rfl rfl (by kernel_rfl) (by kernel_rfl)
      refine D_skip 20 rfl ?_ rfl rfl (by kernel_rfl) (by kernel_rfl)
      refine D_skip 21 rfl ?_ rfl rfl (by kernel_rfl) (by kernel_rfl)
      refine D_skip 22 rfl ?_ rfl rfl (by kernel_rfl) (by kernel_rfl)
      refine D_skip 23 rfl ?_ rfl rfl (by kernel_rfl) (by kernel_rfl)
      refine D_skip 24 rfl ?_ rfl rfl (by kernel_rfl) (by kernel_rfl)
      refine D_take 25 rfl (pev_ok rfl) ?_ rfl rfl (by kernel_rfl) (by kernel_rfl)
      refine D_done ?_ (by kernel_rfl)
      skip
      focus (refine S_true rfl rfl ?_; refine S_seq rfl ?_; refine S_region rfl rfl ?_; refine R_p rfl ?_ rfl rfl; refine R_nil ?_)
      refine hB _ _ _ _ _ rfl rfl fun w' hS => ⟨(), ?_, trivial, hS.sublist (List.nil_sublist _)⟩
      rw [hr0 false (fun _ => hbd rfl) (.inr rfl)]
      rfl
    rcases Nat.eq_zero_or_pos j with hj0 | hj0
    · subst hj0
      refine S_draw ([pt b4 70 (rwc x), pt b 100 [.slice A L.length c, .func (.func 54) #[] #[]]]) sub_st (by kernel_rfl) rfl (by kernel_rfl) (by kernel_rfl : _ = 26) ?_
      refine D_take 0 rfl (pev_ok rfl) ?_ rfl rfl (by kernel_rfl) (by kernel_rfl)
      refine D_take 1 rfl (T_load rfl rfl rfl (by first | rfl | assumption)) ?_ rfl rfl (by kernel_rfl) (by kernel_rfl)
      refine D_take 2 rfl (T_loada (ds := rwc x) rfl rfl rfl rfl (fun j v h => by simpa using h)) ?_ rfl rfl (by kernel_rfl) (by kernel_rfl)
      refine D_one 3 rfl (E_crowPath (a := x) rfl rfl hxs) ?_ rfl rfl (by kernel_rfl)
      rintro _ _ ⟨rfl, rfl⟩
      refine Nx_same sub_st ?_
      refine D_one 4 rfl (E_pathW (a := s) (r := true) rfl hpl hr) ?_ rfl rfl (by kernel_rfl)
      rintro _ _ ⟨rfl, rfl⟩
      refine Nx_same sub_st ?_
      refine D_take 5 rfl (T_not rfl) ?_ rfl rfl (by kernel_rfl) (by kernel_rfl)
      refine D_take 6 rfl (pev_ok rfl) ?_ rfl rfl (by kernel_rfl) (by kernel_rfl)
      refine D_take 7 rfl (pev_ok rfl) ?_ rfl rfl (by kernel_rfl) (by kernel_rfl)
      refine D_take 8 rfl (T_decF rfl (by omega)) ?_ rfl rfl (by kernel_rfl) (by kernel_rfl)
      refine D_take 9 rfl (pev_ok rfl) ?_ rfl rfl (by kernel_rfl) (by kernel_rfl)
      refine D_skip 10 rfl ?_ rfl rfl (by kernel_rfl) (by kernel_rfl)
      refine D_skip 11 rfl ?_ rfl rfl (by kernel_rfl) (by kernel_rfl)
      refine D_skip 12 rfl ?_ rfl rfl (by kernel_rfl) (by kernel_rfl)
      refine D_skip 13 rfl ?_ rfl rfl (by kernel_rfl) (by kernel_rfl)
      refine D_skip 14 rfl ?_ rfl rfl (by kernel_rfl) (by kernel_rfl)
      refine D_skip 15 rfl ?_ rfl rfl (by kernel_rfl) (by kernel_rfl)
      refine D_skip 16 rfl ?_ rfl rfl (by kernel_rfl) (by kernel_rfl)
      refine D_skip 17 rfl ?_ rfl rfl (by kernel_rfl) (by kernel_rfl)
      refine D_skip 18 rfl ?_ rfl rfl (by kernel_rfl) (by kernel_rfl)
      refine D_skip 19 rfl ?_ rfl rfl (by kernel_rfl) (by kernel_rfl)
      refine D_skip 20 rfl ?_ rfl rfl (by kernel_rfl) (by kernel_rfl)
      refine D_skip 21 rfl ?_ rfl rfl (by kernel_rfl) (by kernel_rfl)
      refine D_skip 22 rfl ?_ rfl rfl (by kernel_rfl) (by kernel_rfl)
      refine D_skip 23 rfl ?_ rfl rfl (by kernel_rfl) (by kernel_rfl)
      refine D_take 24 rfl (pev_ok rfl) ?_ rfl rfl (by kernel_rfl) (by kernel_rfl)
      refine D_take 25 rfl (pev_ok rfl) ?_ rfl rfl (by kernel_rfl) (by kernel_rfl)
      refine D_done ?_ (by kernel_rfl)
      skip
      focus (refine S_false rfl rfl ?_; refine S_skip rfl ?_; refine RS_blk ?_; refine S_region rfl rfl ?_; refine R_take (T_addN rfl rfl (by unfold fits; omega)) ?_ rfl rfl; refine R_p rfl ?_ rfl rfl; refine R_nil ?_)
      exact hJ 1 _ _ ⟨by omega, hnx⟩ (Sub.cons rfl (Sub.cons rfl (Sub.cons rfl (Sub.cons rfl Sub.nil)))) sub_st (by omega)
    obtain ⟨i, rfl⟩ : ∃ i, j = i + 1 := ⟨j - 1, by omega⟩
    have hat2 := cellsL_at (f := rwc) rwc_len L default i (by omega)
    rw [Nat.add_sub_cancel, map_getD L i (by omega)] at hnx hbd
    obtain ⟨y, hy⟩ : ∃ y, L.getD i default = y := ⟨_, rfl⟩
    rw [hy] at hat2 hnx hbd
    obtain ⟨u, hyu⟩ : ∃ u, y.1 = u := ⟨_, rfl⟩
    rw [hyu] at hnx hbd
    have hcm : scmp .geq u s = some (!Op.bytesLess u s) := rfl
    obtain ⟨q, hq⟩ : ∃ q, Op.bytesLess u s = q := ⟨_, rfl⟩
    rw [hq] at hnx hbd hcm
    refine S_cut (X := Unit) (fun _ => [(1, .pointer (some ⟨b, 0, none⟩)), (10, .slice A L.length c), (11, .int .i64 (L.length : Int)), (12, .int .i64 ((i + 1 : Nat) : Int)), (42, .bool (!q))]) (fun _ => [pt b 100 [.slice A L.length c, .func (.func 54) #[] #[]]]) (fun _ => True) ?_ ?_
    · intro J hJ
      refine S_draw ([pt b4 70 (rwc x), pt b 100 [.slice A L.length c, .func (.func 54) #[] #[]]]) sub_st (by kernel_rfl) rfl (by kernel_rfl) (by kernel_rfl : _ = 26) ?_
      refine D_take 0 rfl (pev_ok rfl) ?_ rfl rfl (by kernel_rfl) (by kernel_rfl)
      refine D_take 1 rfl (T_load rfl rfl rfl (by first | rfl | assumption)) ?_ rfl rfl (by kernel_rfl) (by kernel_rfl)
      refine D_take 2 rfl (T_loada (ds := rwc x) rfl rfl rfl rfl (fun j v h => by simpa using h)) ?_ rfl rfl (by kernel_rfl) (by kernel_rfl)
      refine D_one 3 rfl (E_crowPath (a := x) rfl rfl hxs) ?_ rfl rfl (by kernel_rfl)
      rintro _ _ ⟨rfl, rfl⟩
      refine Nx_same sub_st ?_
      refine D_one 4 rfl (E_pathW (a := s) (r := true) rfl hpl hr) ?_ rfl rfl (by kernel_rfl)
      rintro _ _ ⟨rfl, rfl⟩
      refine Nx_same sub_st ?_
      refine D_take 5 rfl (T_not rfl) ?_ rfl rfl (by kernel_rfl) (by kernel_rfl)
      refine D_take 6 rfl (pev_ok rfl) ?_ rfl rfl (by kernel_rfl) (by kernel_rfl)
      refine D_take 7 rfl (pev_ok rfl) ?_ rfl rfl (by kernel_rfl) (by kernel_rfl)
      refine D_take 8 rfl (T_decT rfl (by omega)) ?_ rfl rfl (by kernel_rfl) (by kernel_rfl)
      refine D_take 9 rfl (pev_ok rfl) ?_ rfl rfl (by kernel_rfl) (by kernel_rfl)
      refine D_take 10 rfl (pev_ok rfl) ?_ rfl rfl (by kernel_rfl) (by kernel_rfl)
      refine D_take 11 rfl (T_load rfl rfl rfl (by first | rfl | assumption)) ?_ rfl rfl (by kernel_rfl) (by kernel_rfl)
      refine D_take 12 rfl (pev_ok rfl) ?_ rfl rfl (by kernel_rfl) (by kernel_rfl)
      refine D_take 13 rfl (T_load rfl rfl rfl (by first | rfl | assumption)) ?_ rfl rfl (by kernel_rfl) (by kernel_rfl)
      refine D_take 14 rfl (pev_ok rfl) ?_ rfl rfl (by kernel_rfl) (by kernel_rfl)
      (refine D_take 15 rfl (T_subN rfl rfl (by omega) (by unfold fits; omega)) ?_ rfl rfl (by kernel_rfl) (by kernel_rfl))
      refine D_take 16 rfl (T_ixM (sz := 2) (q := i) rfl rfl rfl rfl rfl rfl hne (by omega)) ?_ rfl rfl (by kernel_rfl) (by kernel_rfl)
      refine D_take 17 rfl (T_lda (ds := rwc y) rfl rfl rfl (Srd.old h (fun k _ => noOwns k)) rfl (by omega) hat2) ?_ rfl rfl (by kernel_rfl) (by kernel_rfl)
      refine D_take 19 rfl (pev_ok rfl) ?_ rfl rfl (by kernel_rfl) (by kernel_rfl)
      refine D_take 20 rfl (T_load rfl rfl rfl (by first | rfl | assumption)) ?_ rfl rfl (by kernel_rfl) (by kernel_rfl)
      refine D_take 21 rfl (T_loada (ds := rwc x) rfl rfl rfl rfl (fun j v h => by simpa using h)) ?_ rfl rfl (by kernel_rfl) (by kernel_rfl)
      refine D_one 18 rfl (E_crowPath (a := y) rfl rfl hyu) ?_ rfl rfl (by kernel_rfl)
      rintro _ _ ⟨rfl, rfl⟩
      refine Nx_same sub_st ?_
      refine D_one 22 rfl (E_crowPath (a := x) rfl rfl hxs) ?_ rfl rfl (by kernel_rfl)
      rintro _ _ ⟨rfl, rfl⟩
      refine Nx_same sub_st ?_
      refine D_take 23 rfl (T_scm (a := u) (b := s) rfl rfl hcm) ?_ rfl rfl (by kernel_rfl) (by kernel_rfl)
      refine D_take 24 rfl (pev_ok rfl) ?_ rfl rfl (by kernel_rfl) (by kernel_rfl)
      refine D_take 25 rfl (pev_ok rfl) ?_ rfl rfl (by kernel_rfl) (by kernel_rfl)
      refine D_done ?_ (by kernel_rfl)
      exact hJ () _ _ trivial (Sub.cons rfl (Sub.cons rfl (Sub.cons rfl (Sub.cons rfl (Sub.cons rfl Sub.nil))))) sub_st
    rintro ⟨⟩ _
    cases q
    · --@arms:
      focus (refine S_true rfl rfl ?_; refine S_seq rfl ?_; refine S_region rfl rfl ?_; refine R_p rfl ?_ rfl rfl; refine R_nil ?_)
      refine hB _ _ _ _ _ rfl rfl fun w' hS => ⟨(), ?_, trivial, hS.sublist (List.nil_sublist _)⟩
      rw [hr0 false (fun _ => hbd (by simp)) (.inr rfl)]
      rfl
    · focus (refine S_false rfl rfl ?_; refine S_skip rfl ?_; refine RS_blk ?_; refine S_region rfl rfl ?_; refine R_take (T_addN rfl rfl (by unfold fits; omega)) ?_ rfl rfl; refine R_p rfl ?_ rfl rfl; refine R_nil ?_)
      exact hJ (i + 2) _ _ ⟨by omega, by rw [hnx]; simp⟩ (Sub.cons rfl (Sub.cons rfl (Sub.cons rfl (Sub.cons rfl Sub.nil)))) sub_st (by omega)
  have hjn : j = L.length := by omega
  subst hjn
  focus (refine S_seq rfl ?_; refine S_region rfl rfl ?_; refine R_take (T_decF rfl (by omega)) ?_ rfl rfl; refine R_nil ?_; refine S_seq rfl ?_; refine S_false rfl rfl ?_; refine S_exit rfl rfl ?_; refine S_seq rfl ?_; refine S_region rfl rfl ?_; refine R_p rfl ?_ rfl rfl; refine R_nil ?_)
  refine hB _ _ _ _ _ rfl rfl fun w' hS => ⟨(), ?_, trivial, hS.sublist (List.nil_sublist _)⟩
  rw [hr0 true (fun _ => hok) (.inl h32)]
  rfl
set_option maxRecDepth 100000 in
set_option maxHeartbeats 4000000 in
theorem risC_any (w : World) (A : Option Addr) (n c : Nat) (L : List Ch) (h : Rd w All 3 A n (cellsL chc L)) (hn : n ≤ 100000) (hp : ∀ x ∈ L, x.1.length ≤ 100000) :
    Gives Try.prog 72 [.agg #[.slice A n c, .func (.func 71) #[] #[]]] [] w (X := Unit) (fun _ => .bool (risB (L.map (·.1)))) (fun _ => True) (fun _ => []) := by
  refine gives_S Try.func72 rfl Try.ntmps72 Try.results72 (by simp) (St.enter w) (fun B hB => ?_)
  have hl : L.length = n := by have := h.1; rw [cellsL_len chc_len] at this; omega
  have hne : 0 < n → A ≠ none := fun h0 => by obtain ⟨ad, rfl, _⟩ := h.2 (by omega); simp
  subst hl
  have hr0 : ∀ q : Bool, (L.length ≤ 32 → incN (L.map (·.1)) L.length = q) → (L.length ≤ 32 ∨ q = false) → risB (L.map (·.1)) = q := fun q h1 h2 => by
    rw [risB, List.length_map]
    rcases Nat.lt_or_ge 32 L.length with h3 | h3
    · rw [decide_eq_false (by omega), Bool.false_and]
      rcases h2 with h2 | rfl
      · omega
      · rfl
    · rw [decide_eq_true h3, h1 h3, Bool.true_and]
  rcases Nat.lt_or_ge 32 L.length with h32 | h32
  · skip
    focus (refine S_seq rfl ?_; refine S_region rfl rfl ?_; (refine R_eff (E_boxa (cs := [.slice A L.length c, .func (.func 71) #[] #[]]) rfl) ?_ rfl rfl; rintro _ _ ⟨b, rfl, rfl⟩); refine R_p rfl ?_ rfl rfl; refine R_nil ?_; refine S_seq rfl ?_; refine S_seq rfl ?_; refine S_region rfl rfl ?_; refine R_p rfl ?_ rfl rfl; refine R_take (T_load rfl rfl rfl (by first | rfl | assumption)) ?_ rfl rfl; refine R_p rfl ?_ rfl rfl; refine R_take (T_decT rfl (by omega)) ?_ rfl rfl; refine R_nil ?_; refine S_true rfl rfl ?_; refine S_seq rfl ?_; refine S_region rfl rfl ?_; refine R_p rfl ?_ rfl rfl; refine R_nil ?_)
    refine hB _ _ _ _ _ rfl rfl fun w' hS => ⟨(), ?_, trivial, hS.sublist (List.nil_sublist _)⟩
    rw [hr0 false (fun h => by omega) (.inr rfl)]
    rfl
  focus (refine S_seq rfl ?_; refine S_region rfl rfl ?_; (refine R_eff (E_boxa (cs := [.slice A L.length c, .func (.func 71) #[] #[]]) rfl) ?_ rfl rfl; rintro _ _ ⟨b, rfl, rfl⟩); refine R_p rfl ?_ rfl rfl; refine R_nil ?_; refine S_seq rfl ?_; refine S_seq rfl ?_; refine S_region rfl rfl ?_; refine R_p rfl ?_ rfl rfl; refine R_take (T_load rfl rfl rfl (by first | rfl | assumption)) ?_ rfl rfl; refine R_p rfl ?_ rfl rfl; refine R_take (T_decF rfl (by omega)) ?_ rfl rfl; refine R_nil ?_; refine S_false rfl rfl ?_; refine S_skip rfl ?_; refine S_seq rfl ?_; refine S_seq rfl ?_; refine S_region rfl rfl ?_; refine R_p rfl ?_ rfl rfl; refine R_take (T_load rfl rfl rfl (by first | rfl | assumption)) ?_ rfl rfl; refine R_p rfl ?_ rfl rfl; refine R_p rfl ?_ rfl rfl; refine R_nil ?_; refine S_block rfl ?_)
  refine S_loop (X := Nat) (fun j => [(1, .pointer (some ⟨b, 0, none⟩)), (10, .slice A L.length c), (11, .int .i64 (L.length : Int)), (12, .int .i64 (j : Int))]) (fun _ => [pt b 116 [.slice A L.length c, .func (.func 71) #[] #[]]]) (fun j => j ≤ L.length ∧ incN (L.map (·.1)) j = true) (fun j => L.length - j) rfl 0 ⟨Nat.zero_le _, rfl⟩ (Sub.cons rfl (Sub.cons rfl (Sub.cons rfl (Sub.cons rfl Sub.nil)))) sub_st ?_
  rintro j ⟨hj, hok⟩ J hJ
  rcases Nat.lt_or_ge j L.length with hjl | hjl
  · have hne := hne (by omega)
    have hat := cellsL_at (f := chc) chc_len L default j hjl
    have hmem : L.getD j default ∈ L := by simp [List.getD, hjl]
    have hnx := inc_next (L.map (·.1)) j
    rw [hok, Bool.true_and, stepB, map_getD L j hjl] at hnx
    have hbd := fun hb => inc_bad (ps := L.map (·.1)) (j := j) (n := L.length) hjl hb
    rw [stepB, map_getD L j hjl] at hbd
    have hpl := hp _ hmem
    obtain ⟨x, hx⟩ : ∃ x, L.getD j default = x := ⟨_, rfl⟩
    rw [hx] at hat hmem hnx hbd hpl
    obtain ⟨s, hxs⟩ : ∃ s, x.1 = s := ⟨_, rfl⟩
    rw [hxs] at hnx hbd hpl
    obtain ⟨r, hr⟩ : ∃ r, pathB s = r := ⟨_, rfl⟩
    rw [hr] at hnx hbd
    focus (refine S_seq rfl ?_; refine S_region rfl rfl ?_; refine R_take (T_decT rfl (by omega)) ?_ rfl rfl; refine R_nil ?_; refine S_seq rfl ?_; refine S_true rfl rfl ?_; refine S_skip rfl ?_; refine S_seq rfl ?_; refine S_block rfl ?_; refine S_seq rfl ?_; refine S_region rfl rfl ?_; refine R_p rfl ?_ rfl rfl; refine R_take (T_ixM (sz := 3) rfl rfl rfl rfl rfl rfl hne hjl) ?_ rfl rfl; refine R_take (T_lda (ds := chc x) rfl rfl rfl (Srd.old h (fun k _ => noOwns k)) rfl (by omega) hat) ?_ rfl rfl; (refine R_eff (E_alloca rfl chc_zero) ?_ rfl rfl; rintro _ _ ⟨b4, rfl, rfl⟩); refine R_p rfl ?_ rfl rfl; (refine R_eff0 (E_storew (cs := chc default) (ds := chc x) rfl rfl rfl rfl (chc_one _) rfl) ?_ rfl; rintro _ _ rfl); refine R_nil ?_; refine S_seq rfl ?_)
    cases r
    · skip
      refine S_draw ([pt b4 73 (chc x), pt b 116 [.slice A L.length c, .func (.func 71) #[] #[]]]) sub_st (by kernel_rfl) rfl (by kernel_rfl) (by kernel_rfl : _ = 26) ?_
      refine D_take 0 rfl (pev_ok rfl) ?_ rfl rfl (by kernel_rfl) (by kernel_rfl)
      refine D_take 1 rfl (T_load rfl rfl rfl (by first | rfl | assumption)) ?_ rfl rfl (by kernel_rfl) (by kernel_rfl)
      refine D_take 2 rfl (T_loada (ds := chc x) rfl rfl rfl rfl (fun j v h => by simpa using h)) ?_ rfl rfl (by kernel_rfl) (by kernel_rfl)
      refine D_one 3 rfl (E_cchangePath (a := x) rfl rfl hxs) ?_ rfl rfl (by kernel_rfl)
      rintro _ _ ⟨rfl, rfl⟩
      refine Nx_same sub_st ?_
      refine D_one 4 rfl (E_pathW (a := s) (r := false) rfl hpl hr) ?_ rfl rfl (by kernel_rfl)
      rintro _ _ ⟨rfl, rfl⟩
      refine Nx_same sub_st ?_
      refine D_take 5 rfl (T_not rfl) ?_ rfl rfl (by kernel_rfl) (by kernel_rfl)
      refine D_take 6 rfl (pev_ok rfl) ?_ rfl rfl (by kernel_rfl) (by kernel_rfl)
      refine D_skip 7 rfl ?_ rfl rfl (by kernel_rfl) (by kernel_rfl)
      refine D_skip 8 rfl ?_ rfl rfl (by kernel_rfl) (by kernel_rfl)
      refine D_skip 9 rfl ?_ rfl rfl (by kernel_rfl) (by kernel_rfl)
      refine D_skip 10 rfl ?_ rfl rfl (by kernel_rfl) (by kernel_rfl)
      refine D_skip 11 rfl ?_ rfl rfl (by kernel_rfl) (by kernel_rfl)
      refine D_skip 12 rfl ?_ rfl rfl (by kernel_rfl) (by kernel_rfl)
      refine D_skip 13 rfl ?_ rfl rfl (by kernel_rfl) (by kernel_rfl)
      refine D_skip 14 rfl ?_ rfl rfl (by kernel_rfl) (by kernel_rfl)
      refine D_skip 15 rfl ?_ rfl rfl (by kernel_rfl) (by kernel_rfl)
      refine D_skip 16 rfl ?_ rfl rfl (by kernel_rfl) (by kernel_rfl)
      refine D_skip 17 rfl ?_ rfl rfl (by kernel_rfl) (by kernel_rfl)
      refine D_skip 18 rfl ?_ rfl rfl (by kernel_rfl) (by kernel_rfl)
      refine D_skip 19 rfl ?_ rfl rfl (by kernel_rfl) (by kernel_rfl)
      refine D_skip 20 rfl ?_ rfl rfl (by kernel_rfl) (by kernel_rfl)
      refine D_skip 21 rfl ?_ rfl rfl (by kernel_rfl) (by kernel_rfl)
      refine D_skip 22 rfl ?_ rfl rfl (by kernel_rfl) (by kernel_rfl)
      refine D_skip 23 rfl ?_ rfl rfl (by kernel_rfl) (by kernel_rfl)
      refine D_skip 24 rfl ?_ rfl rfl (by kernel_rfl) (by kernel_rfl)
      refine D_take 25 rfl (pev_ok rfl) ?_ rfl rfl (by kernel_rfl) (by kernel_rfl)
      refine D_done ?_ (by kernel_rfl)
      skip
      focus (refine S_true rfl rfl ?_; refine S_seq rfl ?_; refine S_region rfl rfl ?_; refine R_p rfl ?_ rfl rfl; refine R_nil ?_)
      refine hB _ _ _ _ _ rfl rfl fun w' hS => ⟨(), ?_, trivial, hS.sublist (List.nil_sublist _)⟩
      rw [hr0 false (fun _ => hbd rfl) (.inr rfl)]
      rfl
    rcases Nat.eq_zero_or_pos j with hj0 | hj0
    · subst hj0
      refine S_draw ([pt b4 73 (chc x), pt b 116 [.slice A L.length c, .func (.func 71) #[] #[]]]) sub_st (by kernel_rfl) rfl (by kernel_rfl) (by kernel_rfl : _ = 26) ?_
      refine D_take 0 rfl (pev_ok rfl) ?_ rfl rfl (by kernel_rfl) (by kernel_rfl)
      refine D_take 1 rfl (T_load rfl rfl rfl (by first | rfl | assumption)) ?_ rfl rfl (by kernel_rfl) (by kernel_rfl)
      refine D_take 2 rfl (T_loada (ds := chc x) rfl rfl rfl rfl (fun j v h => by simpa using h)) ?_ rfl rfl (by kernel_rfl) (by kernel_rfl)
      refine D_one 3 rfl (E_cchangePath (a := x) rfl rfl hxs) ?_ rfl rfl (by kernel_rfl)
      rintro _ _ ⟨rfl, rfl⟩
      refine Nx_same sub_st ?_
      refine D_one 4 rfl (E_pathW (a := s) (r := true) rfl hpl hr) ?_ rfl rfl (by kernel_rfl)
      rintro _ _ ⟨rfl, rfl⟩
      refine Nx_same sub_st ?_
      refine D_take 5 rfl (T_not rfl) ?_ rfl rfl (by kernel_rfl) (by kernel_rfl)
      refine D_take 6 rfl (pev_ok rfl) ?_ rfl rfl (by kernel_rfl) (by kernel_rfl)
      refine D_take 7 rfl (pev_ok rfl) ?_ rfl rfl (by kernel_rfl) (by kernel_rfl)
      refine D_take 8 rfl (T_decF rfl (by omega)) ?_ rfl rfl (by kernel_rfl) (by kernel_rfl)
      refine D_take 9 rfl (pev_ok rfl) ?_ rfl rfl (by kernel_rfl) (by kernel_rfl)
      refine D_skip 10 rfl ?_ rfl rfl (by kernel_rfl) (by kernel_rfl)
      refine D_skip 11 rfl ?_ rfl rfl (by kernel_rfl) (by kernel_rfl)
      refine D_skip 12 rfl ?_ rfl rfl (by kernel_rfl) (by kernel_rfl)
      refine D_skip 13 rfl ?_ rfl rfl (by kernel_rfl) (by kernel_rfl)
      refine D_skip 14 rfl ?_ rfl rfl (by kernel_rfl) (by kernel_rfl)
      refine D_skip 15 rfl ?_ rfl rfl (by kernel_rfl) (by kernel_rfl)
      refine D_skip 16 rfl ?_ rfl rfl (by kernel_rfl) (by kernel_rfl)
      refine D_skip 17 rfl ?_ rfl rfl (by kernel_rfl) (by kernel_rfl)
      refine D_skip 18 rfl ?_ rfl rfl (by kernel_rfl) (by kernel_rfl)
      refine D_skip 19 rfl ?_ rfl rfl (by kernel_rfl) (by kernel_rfl)
      refine D_skip 20 rfl ?_ rfl rfl (by kernel_rfl) (by kernel_rfl)
      refine D_skip 21 rfl ?_ rfl rfl (by kernel_rfl) (by kernel_rfl)
      refine D_skip 22 rfl ?_ rfl rfl (by kernel_rfl) (by kernel_rfl)
      refine D_skip 23 rfl ?_ rfl rfl (by kernel_rfl) (by kernel_rfl)
      refine D_take 24 rfl (pev_ok rfl) ?_ rfl rfl (by kernel_rfl) (by kernel_rfl)
      refine D_take 25 rfl (pev_ok rfl) ?_ rfl rfl (by kernel_rfl) (by kernel_rfl)
      refine D_done ?_ (by kernel_rfl)
      skip
      focus (refine S_false rfl rfl ?_; refine S_skip rfl ?_; refine RS_blk ?_; refine S_region rfl rfl ?_; refine R_take (T_addN rfl rfl (by unfold fits; omega)) ?_ rfl rfl; refine R_p rfl ?_ rfl rfl; refine R_nil ?_)
      exact hJ 1 _ _ ⟨by omega, hnx⟩ (Sub.cons rfl (Sub.cons rfl (Sub.cons rfl (Sub.cons rfl Sub.nil)))) sub_st (by omega)
    obtain ⟨i, rfl⟩ : ∃ i, j = i + 1 := ⟨j - 1, by omega⟩
    have hat2 := cellsL_at (f := chc) chc_len L default i (by omega)
    rw [Nat.add_sub_cancel, map_getD L i (by omega)] at hnx hbd
    obtain ⟨y, hy⟩ : ∃ y, L.getD i default = y := ⟨_, rfl⟩
    rw [hy] at hat2 hnx hbd
    obtain ⟨u, hyu⟩ : ∃ u, y.1 = u := ⟨_, rfl⟩
    rw [hyu] at hnx hbd
    have hcm : scmp .geq u s = some (!Op.bytesLess u s) := rfl
    obtain ⟨q, hq⟩ : ∃ q, Op.bytesLess u s = q := ⟨_, rfl⟩
    rw [hq] at hnx hbd hcm
    refine S_cut (X := Unit) (fun _ => [(1, .pointer (some ⟨b, 0, none⟩)), (10, .slice A L.length c), (11, .int .i64 (L.length : Int)), (12, .int .i64 ((i + 1 : Nat) : Int)), (42, .bool (!q))]) (fun _ => [pt b 116 [.slice A L.length c, .func (.func 71) #[] #[]]]) (fun _ => True) ?_ ?_
    · intro J hJ
      refine S_draw ([pt b4 73 (chc x), pt b 116 [.slice A L.length c, .func (.func 71) #[] #[]]]) sub_st (by kernel_rfl) rfl (by kernel_rfl) (by kernel_rfl : _ = 26) ?_
      refine D_take 0 rfl (pev_ok rfl) ?_ rfl rfl (by kernel_rfl) (by kernel_rfl)
      refine D_take 1 rfl (T_load rfl rfl rfl (by first | rfl | assumption)) ?_ rfl rfl (by kernel_rfl) (by kernel_rfl)
      refine D_take 2 rfl (T_loada (ds := chc x) rfl rfl rfl rfl (fun j v h => by simpa using h)) ?_ rfl rfl (by kernel_rfl) (by kernel_rfl)
      refine D_one 3 rfl (E_cchangePath (a := x) rfl rfl hxs) ?_ rfl rfl (by kernel_rfl)
      rintro _ _ ⟨rfl, rfl⟩
      refine Nx_same sub_st ?_
      refine D_one 4 rfl (E_pathW (a := s) (r := true) rfl hpl hr) ?_ rfl rfl (by kernel_rfl)
      rintro _ _ ⟨rfl, rfl⟩
      refine Nx_same sub_st ?_
      refine D_take 5 rfl (T_not rfl) ?_ rfl rfl (by kernel_rfl) (by kernel_rfl)
      refine D_take 6 rfl (pev_ok rfl) ?_ rfl rfl (by kernel_rfl) (by kernel_rfl)
      refine D_take 7 rfl (pev_ok rfl) ?_ rfl rfl (by kernel_rfl) (by kernel_rfl)
      refine D_take 8 rfl (T_decT rfl (by omega)) ?_ rfl rfl (by kernel_rfl) (by kernel_rfl)
      refine D_take 9 rfl (pev_ok rfl) ?_ rfl rfl (by kernel_rfl) (by kernel_rfl)
      refine D_take 10 rfl (pev_ok rfl) ?_ rfl rfl (by kernel_rfl) (by kernel_rfl)
      refine D_take 11 rfl (T_load rfl rfl rfl (by first | rfl | assumption)) ?_ rfl rfl (by kernel_rfl) (by kernel_rfl)
      refine D_take 12 rfl (pev_ok rfl) ?_ rfl rfl (by kernel_rfl) (by kernel_rfl)
      refine D_take 13 rfl (T_load rfl rfl rfl (by first | rfl | assumption)) ?_ rfl rfl (by kernel_rfl) (by kernel_rfl)
      refine D_take 14 rfl (pev_ok rfl) ?_ rfl rfl (by kernel_rfl) (by kernel_rfl)
      (refine D_take 15 rfl (T_subN rfl rfl (by omega) (by unfold fits; omega)) ?_ rfl rfl (by kernel_rfl) (by kernel_rfl))
      refine D_take 16 rfl (T_ixM (sz := 3) (q := i) rfl rfl rfl rfl rfl rfl hne (by omega)) ?_ rfl rfl (by kernel_rfl) (by kernel_rfl)
      refine D_take 17 rfl (T_lda (ds := chc y) rfl rfl rfl (Srd.old h (fun k _ => noOwns k)) rfl (by omega) hat2) ?_ rfl rfl (by kernel_rfl) (by kernel_rfl)
      refine D_take 19 rfl (pev_ok rfl) ?_ rfl rfl (by kernel_rfl) (by kernel_rfl)
      refine D_take 20 rfl (T_load rfl rfl rfl (by first | rfl | assumption)) ?_ rfl rfl (by kernel_rfl) (by kernel_rfl)
      refine D_take 21 rfl (T_loada (ds := chc x) rfl rfl rfl rfl (fun j v h => by simpa using h)) ?_ rfl rfl (by kernel_rfl) (by kernel_rfl)
      refine D_one 18 rfl (E_cchangePath (a := y) rfl rfl hyu) ?_ rfl rfl (by kernel_rfl)
      rintro _ _ ⟨rfl, rfl⟩
      refine Nx_same sub_st ?_
      refine D_one 22 rfl (E_cchangePath (a := x) rfl rfl hxs) ?_ rfl rfl (by kernel_rfl)
      rintro _ _ ⟨rfl, rfl⟩
      refine Nx_same sub_st ?_
      refine D_take 23 rfl (T_scm (a := u) (b := s) rfl rfl hcm) ?_ rfl rfl (by kernel_rfl) (by kernel_rfl)
      refine D_take 24 rfl (pev_ok rfl) ?_ rfl rfl (by kernel_rfl) (by kernel_rfl)
      refine D_take 25 rfl (pev_ok rfl) ?_ rfl rfl (by kernel_rfl) (by kernel_rfl)
      refine D_done ?_ (by kernel_rfl)
      exact hJ () _ _ trivial (Sub.cons rfl (Sub.cons rfl (Sub.cons rfl (Sub.cons rfl (Sub.cons rfl Sub.nil))))) sub_st
    rintro ⟨⟩ _
    cases q
    · --@arms:
      focus (refine S_true rfl rfl ?_; refine S_seq rfl ?_; refine S_region rfl rfl ?_; refine R_p rfl ?_ rfl rfl; refine R_nil ?_)
      refine hB _ _ _ _ _ rfl rfl fun w' hS => ⟨(), ?_, trivial, hS.sublist (List.nil_sublist _)⟩
      rw [hr0 false (fun _ => hbd (by simp)) (.inr rfl)]
      rfl
    · focus (refine S_false rfl rfl ?_; refine S_skip rfl ?_; refine RS_blk ?_; refine S_region rfl rfl ?_; refine R_take (T_addN rfl rfl (by unfold fits; omega)) ?_ rfl rfl; refine R_p rfl ?_ rfl rfl; refine R_nil ?_)
      exact hJ (i + 2) _ _ ⟨by omega, by rw [hnx]; simp⟩ (Sub.cons rfl (Sub.cons rfl (Sub.cons rfl (Sub.cons rfl Sub.nil)))) sub_st (by omega)
  have hjn : j = L.length := by omega
  subst hjn
  focus (refine S_seq rfl ?_; refine S_region rfl rfl ?_; refine R_take (T_decF rfl (by omega)) ?_ rfl rfl; refine R_nil ?_; refine S_seq rfl ?_; refine S_false rfl rfl ?_; refine S_exit rfl rfl ?_; refine S_seq rfl ?_; refine S_region rfl rfl ?_; refine R_p rfl ?_ rfl rfl; refine R_nil ?_)
  refine hB _ _ _ _ _ rfl rfl fun w' hS => ⟨(), ?_, trivial, hS.sublist (List.nil_sublist _)⟩
  rw [hr0 true (fun _ => hok) (.inl h32)]
  rfl
end Go.Proofs.Ytghfjfgpiomdhaa

namespace Go.Proofs.Ytghfjfgpiomdhaa
open Go.RowKit
open Asn (pt row rb)
set_option linter.unusedVariables false
set_option linter.unusedSimpArgs false
--@use N

section
variable {P : Program} {n : Nat} {w0 : World} {M : Nat → Prop} {T : Slots} {H Hr : List Asn} {dd : Option Tmp} {tt : TypeId} {pos : String} {af : Array Edge} {g : Option (Nat × Bool)} {x y z : Operand} {ts : Array TypeId}
theorem T_build2 {s : TypeId} {j k : Nat} {u v : Value} {cs : List Value} (hx : oget T x = some u) (hy : oget T y = some v) (hb : P.built s [(j, u), (k, v)] = some cs.toArray) :
    Tk P n w0 M T H ⟨dd, .build s #[(j, x), (k, y)], tt, pos, af, g⟩ (.agg cs.toArray) := .mk fun a w ha hS => by
  have hr := run_build (P := P) w s #[(j, u), (k, v)] cs.toArray (by simpa using hb)
  simp only [execOp, List.map_toArray, List.map_cons, List.map_nil, ha.eval hx, ha.eval hy, Sem.run_bind, hr, Result.andThen_ok, Sem.run_pure]
theorem T_build3 {s : TypeId} {j k l : Nat} {u v v3 : Value} {cs : List Value} (hx : oget T x = some u) (hy : oget T y = some v) (hz : oget T z = some v3) (hb : P.built s [(j, u), (k, v), (l, v3)] = some cs.toArray) :
    Tk P n w0 M T H ⟨dd, .build s #[(j, x), (k, y), (l, z)], tt, pos, af, g⟩ (.agg cs.toArray) := .mk fun a w ha hS => by
  have hr := run_build (P := P) w s #[(j, u), (k, v), (l, v3)] cs.toArray (by simpa using hb)
  simp only [execOp, List.map_toArray, List.map_cons, List.map_nil, ha.eval hx, ha.eval hy, ha.eval hz, Sem.run_bind, hr, Result.andThen_ok, Sem.run_pure]
end
theorem less_or (a b : Str) : (Op.bytesLess a b || decide (a = b)) = !Op.bytesLess b a := by
  rw [bytesLess_eq, bytesLess_eq, Bool.eq_iff_iff]
  simp only [Bool.or_eq_true, decide_eq_true_eq, Bool.not_eq_true', decide_eq_false_iff_not, List.not_lt]
  refine ⟨fun h => h.elim List.le_of_lt (fun h => h ▸ List.le_refl a), fun h => ?_⟩
  by_cases h2 : a < b
  · exact .inl h2
  · exact .inr (List.le_antisymm h (List.not_lt.1 h2))
theorem rwc_built (A : Option Addr) (n c : Nat) : Try.prog.built 100 [(0, .slice A n c), (1, .func (.func 54) #[] #[])] = some [Value.slice A n c, .func (.func 54) #[] #[]].toArray := by kernel_rfl
set_option maxRecDepth 100000 in
set_option maxHeartbeats 4000000 in
theorem checkR_any (w : World) (A : Option Addr) (n c : Nat) (L : List Rw) (h : Rd w All 2 A n (cellsL rwc L)) (hn : n ≤ 100000) (hp : ∀ x ∈ L, x.1.length ≤ 100000) :
    Gives Try.prog 26 [.agg #[.slice A n c]] [] w (X := Unit) (fun _ => zi (if chkR L then 0 else 150)) (fun _ => True) (fun _ => []) := by
  refine gives_S Try.func26 rfl Try.ntmps26 Try.results26 (by simp) (St.enter w) (fun B hB => ?_)
  obtain ⟨r, hr⟩ : ∃ r, L.all (fun x => !badR x) = r := ⟨_, rfl⟩
  obtain ⟨q, hq⟩ : ∃ q, risB (L.map (·.1)) = q := ⟨_, rfl⟩
  have hck : chkR L = (r && q) := by rw [chkR, hr, hq]
  cases r
  all_goals cases q
  · skip
    focus (refine S_seq rfl ?_; refine S_region rfl rfl ?_; (refine R_eff (E_boxa (cs := [.slice A n c]) rfl) ?_ rfl rfl; rintro _ _ ⟨b, rfl, rfl⟩); refine R_p rfl ?_ rfl rfl; refine R_nil ?_; refine S_seq rfl ?_; refine S_region rfl rfl ?_; refine R_p rfl ?_ rfl rfl; refine R_take (T_load rfl rfl rfl (by first | rfl | assumption)) ?_ rfl rfl; (refine R_eff (E_gv0 ⟨_, Try.func52, rfl, by kernel_rfl⟩ rfl (fun w' hS => confR_any w' A n c _ [] L badR ((Srd.old h (fun k _ => noOwns k)).rd w' hS) hn ⟨_, Try.func53, rfl, by kernel_rfl⟩ (fun w2 hk x hx => badR_any w2 x)) (fun _ => rfl)) ?_ rfl rfl; rintro _ _ ⟨_, rfl, _, rfl⟩; rw [hr]); refine R_p rfl ?_ rfl rfl; refine R_nil ?_; refine S_seq rfl ?_; refine S_seq rfl ?_; refine S_region rfl rfl ?_; refine R_p rfl ?_ rfl rfl; refine R_p rfl ?_ rfl rfl; refine R_skip ?_ rfl rfl; refine R_skip ?_ rfl rfl; refine R_skip ?_ rfl rfl; refine R_skip ?_ rfl rfl; refine R_skip ?_ rfl rfl; refine R_p rfl ?_ rfl rfl; refine R_nil ?_; refine S_true rfl rfl ?_; refine S_seq rfl ?_; refine S_region rfl rfl ?_; refine R_p rfl ?_ rfl rfl; refine R_nil ?_)
    refine hB _ _ _ _ _ rfl rfl fun w' hS => ⟨(), ?_, trivial, hS.sublist (List.nil_sublist _)⟩
    rw [hck]
    rfl
  · skip
    focus (refine S_seq rfl ?_; refine S_region rfl rfl ?_; (refine R_eff (E_boxa (cs := [.slice A n c]) rfl) ?_ rfl rfl; rintro _ _ ⟨b, rfl, rfl⟩); refine R_p rfl ?_ rfl rfl; refine R_nil ?_; refine S_seq rfl ?_; refine S_region rfl rfl ?_; refine R_p rfl ?_ rfl rfl; refine R_take (T_load rfl rfl rfl (by first | rfl | assumption)) ?_ rfl rfl; (refine R_eff (E_gv0 ⟨_, Try.func52, rfl, by kernel_rfl⟩ rfl (fun w' hS => confR_any w' A n c _ [] L badR ((Srd.old h (fun k _ => noOwns k)).rd w' hS) hn ⟨_, Try.func53, rfl, by kernel_rfl⟩ (fun w2 hk x hx => badR_any w2 x)) (fun _ => rfl)) ?_ rfl rfl; rintro _ _ ⟨_, rfl, _, rfl⟩; rw [hr]); refine R_p rfl ?_ rfl rfl; refine R_nil ?_; refine S_seq rfl ?_; refine S_seq rfl ?_; refine S_region rfl rfl ?_; refine R_p rfl ?_ rfl rfl; refine R_p rfl ?_ rfl rfl; refine R_skip ?_ rfl rfl; refine R_skip ?_ rfl rfl; refine R_skip ?_ rfl rfl; refine R_skip ?_ rfl rfl; refine R_skip ?_ rfl rfl; refine R_p rfl ?_ rfl rfl; refine R_nil ?_; refine S_true rfl rfl ?_; refine S_seq rfl ?_; refine S_region rfl rfl ?_; refine R_p rfl ?_ rfl rfl; refine R_nil ?_)
    refine hB _ _ _ _ _ rfl rfl fun w' hS => ⟨(), ?_, trivial, hS.sublist (List.nil_sublist _)⟩
    rw [hck]
    rfl
  · skip
    focus (refine S_seq rfl ?_; refine S_region rfl rfl ?_; (refine R_eff (E_boxa (cs := [.slice A n c]) rfl) ?_ rfl rfl; rintro _ _ ⟨b, rfl, rfl⟩); refine R_p rfl ?_ rfl rfl; refine R_nil ?_; refine S_seq rfl ?_; refine S_region rfl rfl ?_; refine R_p rfl ?_ rfl rfl; refine R_take (T_load rfl rfl rfl (by first | rfl | assumption)) ?_ rfl rfl; (refine R_eff (E_gv0 ⟨_, Try.func52, rfl, by kernel_rfl⟩ rfl (fun w' hS => confR_any w' A n c _ [] L badR ((Srd.old h (fun k _ => noOwns k)).rd w' hS) hn ⟨_, Try.func53, rfl, by kernel_rfl⟩ (fun w2 hk x hx => badR_any w2 x)) (fun _ => rfl)) ?_ rfl rfl; rintro _ _ ⟨_, rfl, _, rfl⟩; rw [hr]); refine R_p rfl ?_ rfl rfl; refine R_nil ?_; refine S_seq rfl ?_; refine S_seq rfl ?_; refine S_region rfl rfl ?_; refine R_p rfl ?_ rfl rfl; refine R_p rfl ?_ rfl rfl; refine R_p rfl ?_ rfl rfl; refine R_take (T_load rfl rfl rfl (by first | rfl | assumption)) ?_ rfl rfl; refine R_take (T_build2 rfl rfl (rwc_built _ _ _)) ?_ rfl rfl; (refine R_eff (E_gv0 ⟨_, Try.func55, rfl, by kernel_rfl⟩ rfl (fun w' hS => risR_any w' A n c L ((Srd.old h (fun k _ => noOwns k)).rd w' hS) hn hp) (fun _ => rfl)) ?_ rfl rfl; rintro _ _ ⟨_, rfl, _, rfl⟩; rw [hq]); refine R_take (T_not rfl) ?_ rfl rfl; refine R_p rfl ?_ rfl rfl; refine R_nil ?_; refine S_true rfl rfl ?_; refine S_seq rfl ?_; refine S_region rfl rfl ?_; refine R_p rfl ?_ rfl rfl; refine R_nil ?_)
    refine hB _ _ _ _ _ rfl rfl fun w' hS => ⟨(), ?_, trivial, hS.sublist (List.nil_sublist _)⟩
    rw [hck]
    rfl
  · skip
    focus (refine S_seq rfl ?_; refine S_region rfl rfl ?_; (refine R_eff (E_boxa (cs := [.slice A n c]) rfl) ?_ rfl rfl; rintro _ _ ⟨b, rfl, rfl⟩); refine R_p rfl ?_ rfl rfl; refine R_nil ?_; refine S_seq rfl ?_; refine S_region rfl rfl ?_; refine R_p rfl ?_ rfl rfl; refine R_take (T_load rfl rfl rfl (by first | rfl | assumption)) ?_ rfl rfl; (refine R_eff (E_gv0 ⟨_, Try.func52, rfl, by kernel_rfl⟩ rfl (fun w' hS => confR_any w' A n c _ [] L badR ((Srd.old h (fun k _ => noOwns k)).rd w' hS) hn ⟨_, Try.func53, rfl, by kernel_rfl⟩ (fun w2 hk x hx => badR_any w2 x)) (fun _ => rfl)) ?_ rfl rfl; rintro _ _ ⟨_, rfl, _, rfl⟩; rw [hr]); refine R_p rfl ?_ rfl rfl; refine R_nil ?_; refine S_seq rfl ?_; refine S_seq rfl ?_; refine S_region rfl rfl ?_; refine R_p rfl ?_ rfl rfl; refine R_p rfl ?_ rfl rfl; refine R_p rfl ?_ rfl rfl; refine R_take (T_load rfl rfl rfl (by first | rfl | assumption)) ?_ rfl rfl; refine R_take (T_build2 rfl rfl (rwc_built _ _ _)) ?_ rfl rfl; (refine R_eff (E_gv0 ⟨_, Try.func55, rfl, by kernel_rfl⟩ rfl (fun w' hS => risR_any w' A n c L ((Srd.old h (fun k _ => noOwns k)).rd w' hS) hn hp) (fun _ => rfl)) ?_ rfl rfl; rintro _ _ ⟨_, rfl, _, rfl⟩; rw [hq]); refine R_take (T_not rfl) ?_ rfl rfl; refine R_p rfl ?_ rfl rfl; refine R_nil ?_; refine S_false rfl rfl ?_; refine S_skip rfl ?_; refine S_seq rfl ?_; refine S_region rfl rfl ?_; refine R_p rfl ?_ rfl rfl; refine R_nil ?_)
    refine hB _ _ _ _ _ rfl rfl fun w' hS => ⟨(), ?_, trivial, hS.sublist (List.nil_sublist _)⟩
    rw [hck]
    rfl
theorem chc_built (A : Option Addr) (n c : Nat) : Try.prog.built 116 [(0, .slice A n c), (1, .func (.func 71) #[] #[])] = some [Value.slice A n c, .func (.func 71) #[] #[]].toArray := by kernel_rfl
set_option maxRecDepth 100000 in
set_option maxHeartbeats 4000000 in
theorem checkC_any (w : World) (A : Option Addr) (n c : Nat) (L : List Ch) (h : Rd w All 3 A n (cellsL chc L)) (hn : n ≤ 100000) (hp : ∀ x ∈ L, x.1.length ≤ 100000) :
    Gives Try.prog 38 [.agg #[.slice A n c]] [] w (X := Unit) (fun _ => zi (if chkC L then 0 else 151)) (fun _ => True) (fun _ => []) := by
  refine gives_S Try.func38 rfl Try.ntmps38 Try.results38 (by simp) (St.enter w) (fun B hB => ?_)
  obtain ⟨r, hr⟩ : ∃ r, L.all (fun x => !badC x) = r := ⟨_, rfl⟩
  obtain ⟨q, hq⟩ : ∃ q, risB (L.map (·.1)) = q := ⟨_, rfl⟩
  have hck : chkC L = (r && q) := by rw [chkC, hr, hq]
  cases r
  all_goals cases q
  · skip
    focus (refine S_seq rfl ?_; refine S_region rfl rfl ?_; (refine R_eff (E_boxa (cs := [.slice A n c]) rfl) ?_ rfl rfl; rintro _ _ ⟨b, rfl, rfl⟩); refine R_p rfl ?_ rfl rfl; refine R_nil ?_; refine S_seq rfl ?_; refine S_region rfl rfl ?_; refine R_p rfl ?_ rfl rfl; refine R_take (T_load rfl rfl rfl (by first | rfl | assumption)) ?_ rfl rfl; (refine R_eff (E_gv0 ⟨_, Try.func69, rfl, by kernel_rfl⟩ rfl (fun w' hS => confC_any w' A n c _ [] L badC ((Srd.old h (fun k _ => noOwns k)).rd w' hS) hn ⟨_, Try.func70, rfl, by kernel_rfl⟩ (fun w2 hk x hx => badC_any w2 x)) (fun _ => rfl)) ?_ rfl rfl; rintro _ _ ⟨_, rfl, _, rfl⟩; rw [hr]); refine R_p rfl ?_ rfl rfl; refine R_nil ?_; refine S_seq rfl ?_; refine S_seq rfl ?_; refine S_region rfl rfl ?_; refine R_p rfl ?_ rfl rfl; refine R_p rfl ?_ rfl rfl; refine R_skip ?_ rfl rfl; refine R_skip ?_ rfl rfl; refine R_skip ?_ rfl rfl; refine R_skip ?_ rfl rfl; refine R_skip ?_ rfl rfl; refine R_p rfl ?_ rfl rfl; refine R_nil ?_; refine S_true rfl rfl ?_; refine S_seq rfl ?_; refine S_region rfl rfl ?_; refine R_p rfl ?_ rfl rfl; refine R_nil ?_)
    refine hB _ _ _ _ _ rfl rfl fun w' hS => ⟨(), ?_, trivial, hS.sublist (List.nil_sublist _)⟩
    rw [hck]
    rfl
  · skip
    focus (refine S_seq rfl ?_; refine S_region rfl rfl ?_; (refine R_eff (E_boxa (cs := [.slice A n c]) rfl) ?_ rfl rfl; rintro _ _ ⟨b, rfl, rfl⟩); refine R_p rfl ?_ rfl rfl; refine R_nil ?_; refine S_seq rfl ?_; refine S_region rfl rfl ?_; refine R_p rfl ?_ rfl rfl; refine R_take (T_load rfl rfl rfl (by first | rfl | assumption)) ?_ rfl rfl; (refine R_eff (E_gv0 ⟨_, Try.func69, rfl, by kernel_rfl⟩ rfl (fun w' hS => confC_any w' A n c _ [] L badC ((Srd.old h (fun k _ => noOwns k)).rd w' hS) hn ⟨_, Try.func70, rfl, by kernel_rfl⟩ (fun w2 hk x hx => badC_any w2 x)) (fun _ => rfl)) ?_ rfl rfl; rintro _ _ ⟨_, rfl, _, rfl⟩; rw [hr]); refine R_p rfl ?_ rfl rfl; refine R_nil ?_; refine S_seq rfl ?_; refine S_seq rfl ?_; refine S_region rfl rfl ?_; refine R_p rfl ?_ rfl rfl; refine R_p rfl ?_ rfl rfl; refine R_skip ?_ rfl rfl; refine R_skip ?_ rfl rfl; refine R_skip ?_ rfl rfl; refine R_skip ?_ rfl rfl; refine R_skip ?_ rfl rfl; refine R_p rfl ?_ rfl rfl; refine R_nil ?_; refine S_true rfl rfl ?_; refine S_seq rfl ?_; refine S_region rfl rfl ?_; refine R_p rfl ?_ rfl rfl; refine R_nil ?_)
    refine hB _ _ _ _ _ rfl rfl fun w' hS => ⟨(), ?_, trivial, hS.sublist (List.nil_sublist _)⟩
    rw [hck]
    rfl
  · skip
    focus (refine S_seq rfl ?_; refine S_region rfl rfl ?_; (refine R_eff (E_boxa (cs := [.slice A n c]) rfl) ?_ rfl rfl; rintro _ _ ⟨b, rfl, rfl⟩); refine R_p rfl ?_ rfl rfl; refine R_nil ?_; refine S_seq rfl ?_; refine S_region rfl rfl ?_; refine R_p rfl ?_ rfl rfl; refine R_take (T_load rfl rfl rfl (by first | rfl | assumption)) ?_ rfl rfl; (refine R_eff (E_gv0 ⟨_, Try.func69, rfl, by kernel_rfl⟩ rfl (fun w' hS => confC_any w' A n c _ [] L badC ((Srd.old h (fun k _ => noOwns k)).rd w' hS) hn ⟨_, Try.func70, rfl, by kernel_rfl⟩ (fun w2 hk x hx => badC_any w2 x)) (fun _ => rfl)) ?_ rfl rfl; rintro _ _ ⟨_, rfl, _, rfl⟩; rw [hr]); refine R_p rfl ?_ rfl rfl; refine R_nil ?_; refine S_seq rfl ?_; refine S_seq rfl ?_; refine S_region rfl rfl ?_; refine R_p rfl ?_ rfl rfl; refine R_p rfl ?_ rfl rfl; refine R_p rfl ?_ rfl rfl; refine R_take (T_load rfl rfl rfl (by first | rfl | assumption)) ?_ rfl rfl; refine R_take (T_build2 rfl rfl (chc_built _ _ _)) ?_ rfl rfl; (refine R_eff (E_gv0 ⟨_, Try.func72, rfl, by kernel_rfl⟩ rfl (fun w' hS => risC_any w' A n c L ((Srd.old h (fun k _ => noOwns k)).rd w' hS) hn hp) (fun _ => rfl)) ?_ rfl rfl; rintro _ _ ⟨_, rfl, _, rfl⟩; rw [hq]); refine R_take (T_not rfl) ?_ rfl rfl; refine R_p rfl ?_ rfl rfl; refine R_nil ?_; refine S_true rfl rfl ?_; refine S_seq rfl ?_; refine S_region rfl rfl ?_; refine R_p rfl ?_ rfl rfl; refine R_nil ?_)
    refine hB _ _ _ _ _ rfl rfl fun w' hS => ⟨(), ?_, trivial, hS.sublist (List.nil_sublist _)⟩
    rw [hck]
    rfl
  · skip
    focus (refine S_seq rfl ?_; refine S_region rfl rfl ?_; (refine R_eff (E_boxa (cs := [.slice A n c]) rfl) ?_ rfl rfl; rintro _ _ ⟨b, rfl, rfl⟩); refine R_p rfl ?_ rfl rfl; refine R_nil ?_; refine S_seq rfl ?_; refine S_region rfl rfl ?_; refine R_p rfl ?_ rfl rfl; refine R_take (T_load rfl rfl rfl (by first | rfl | assumption)) ?_ rfl rfl; (refine R_eff (E_gv0 ⟨_, Try.func69, rfl, by kernel_rfl⟩ rfl (fun w' hS => confC_any w' A n c _ [] L badC ((Srd.old h (fun k _ => noOwns k)).rd w' hS) hn ⟨_, Try.func70, rfl, by kernel_rfl⟩ (fun w2 hk x hx => badC_any w2 x)) (fun _ => rfl)) ?_ rfl rfl; rintro _ _ ⟨_, rfl, _, rfl⟩; rw [hr]); refine R_p rfl ?_ rfl rfl; refine R_nil ?_; refine S_seq rfl ?_; refine S_seq rfl ?_; refine S_region rfl rfl ?_; refine R_p rfl ?_ rfl rfl; refine R_p rfl ?_ rfl rfl; refine R_p rfl ?_ rfl rfl; refine R_take (T_load rfl rfl rfl (by first | rfl | assumption)) ?_ rfl rfl; refine R_take (T_build2 rfl rfl (chc_built _ _ _)) ?_ rfl rfl; (refine R_eff (E_gv0 ⟨_, Try.func72, rfl, by kernel_rfl⟩ rfl (fun w' hS => risC_any w' A n c L ((Srd.old h (fun k _ => noOwns k)).rd w' hS) hn hp) (fun _ => rfl)) ?_ rfl rfl; rintro _ _ ⟨_, rfl, _, rfl⟩; rw [hq]); refine R_take (T_not rfl) ?_ rfl rfl; refine R_p rfl ?_ rfl rfl; refine R_nil ?_; refine S_false rfl rfl ?_; refine S_skip rfl ?_; refine S_seq rfl ?_; refine S_region rfl rfl ?_; refine R_p rfl ?_ rfl rfl; refine R_nil ?_)
    refine hB _ _ _ _ _ rfl rfl fun w' hS => ⟨(), ?_, trivial, hS.sublist (List.nil_sublist _)⟩
    rw [hck]
    rfl
end Go.Proofs.Ytghfjfgpiomdhaa

namespace Go.Proofs.Ytghfjfgpiomdhaa
open Go.RowKit
open Asn (pt row rb)
set_option linter.unusedVariables false
set_option linter.unusedSimpArgs false
--@use N

/-- what has been gone through is right so far -/
def goodR (L : List Rw) (j : Nat) : Prop := (L.take j).all (fun x => !badR x) = true ∧ incN (L.map (·.1)) j = true
def goodC (L : List Ch) (j : Nat) : Prop := (L.take j).all (fun x => !badC x) = true ∧ incN (L.map (·.1)) j = true
theorem goodR_end {L : List Rw} (h : goodR L L.length) (hl : L.length ≤ 32) : chkR L = true := by
  rw [chkR, risB, List.length_map, decide_eq_true hl, h.2]
  have := h.1
  rw [List.take_length] at this
  rw [this]
  rfl
theorem goodR_full {L : List Rw} (hl : 32 < L.length) : chkR L = false := by
  rw [chkR, risB, List.length_map, decide_eq_false (by omega), Bool.false_and, Bool.and_false]
theorem goodR_bad {L : List Rw} {x : Rw} (hx : x ∈ L) (h : badR x = true) : chkR L = false := by
  have : L.all (fun x => !badR x) = false := by
    rw [List.all_eq_false]
    exact ⟨x, hx, by simp [h]⟩
  rw [chkR, this, Bool.false_and]
theorem goodR_step {L : List Rw} {j : Nat} (hj : j < L.length) (h : stepB (L.map (·.1)) j = false) : chkR L = false := by
  rw [chkR, risB, inc_bad (by simpa using hj) h, Bool.and_false, Bool.and_false]
theorem goodR_next {L : List Rw} {j : Nat} (hj : j < L.length) (h : goodR L j) (hb : badR (L.getD j default) = false) (hs : stepB (L.map (·.1)) j = true) : goodR L (j + 1) := by
  refine ⟨?_, ?_⟩
  · rw [List.take_succ_eq_append_getElem hj, List.all_append, h.1]
    have : L[j] = L.getD j default := by simp [List.getD, hj]
    rw [this, List.all_cons, List.all_nil, hb]
    rfl
  · rw [inc_next, h.2, hs]
    rfl
theorem goodC_end {L : List Ch} (h : goodC L L.length) (hl : L.length ≤ 32) : chkC L = true := by
  rw [chkC, risB, List.length_map, decide_eq_true hl, h.2]
  have := h.1
  rw [List.take_length] at this
  rw [this]
  rfl
theorem goodC_full {L : List Ch} (hl : 32 < L.length) : chkC L = false := by
  rw [chkC, risB, List.length_map, decide_eq_false (by omega), Bool.false_and, Bool.and_false]
theorem goodC_bad {L : List Ch} {x : Ch} (hx : x ∈ L) (h : badC x = true) : chkC L = false := by
  have : L.all (fun x => !badC x) = false := by
    rw [List.all_eq_false]
    exact ⟨x, hx, by simp [h]⟩
  rw [chkC, this, Bool.false_and]
theorem goodC_step {L : List Ch} {j : Nat} (hj : j < L.length) (h : stepB (L.map (·.1)) j = false) : chkC L = false := by
  rw [chkC, risB, inc_bad (by simpa using hj) h, Bool.and_false, Bool.and_false]
theorem goodC_next {L : List Ch} {j : Nat} (hj : j < L.length) (h : goodC L j) (hb : badC (L.getD j default) = false) (hs : stepB (L.map (·.1)) j = true) : goodC L (j + 1) := by
  refine ⟨?_, ?_⟩
  · rw [List.take_succ_eq_append_getElem hj, List.all_append, h.1]
    have : L[j] = L.getD j default := by simp [List.getD, hj]
    rw [this, List.all_cons, List.all_nil, hb]
    rfl
  · rw [inc_next, h.2, hs]
    rfl
set_option maxRecDepth 100000 in
set_option maxHeartbeats 4000000 in
theorem rightR_any (w : World) (A : Option Addr) (n c : Nat) (L : List Rw) (h : Rd w All 2 A n (cellsL rwc L)) (hn : n ≤ 100000) (hp : ∀ x ∈ L, x.1.length ≤ 100000) :
    Gives Try.prog 32 [.agg #[.slice A n c]] [] w (X := Unit) (fun _ => .bool (chkR L)) (fun _ => True) (fun _ => []) := by
  refine gives_S Try.func32 rfl Try.ntmps32 Try.results32 (by simp) (St.enter w) (fun B hB => ?_)
  have hl : L.length = n := by have := h.1; rw [cellsL_len rwc_len] at this; omega
  have hne : 0 < n → A ≠ none := fun h0 => by obtain ⟨ad, rfl, _⟩ := h.2 (by omega); simp
  subst hl
  focus (refine S_seq rfl ?_; refine S_region rfl rfl ?_; (refine R_eff (E_boxa (cs := [.slice A L.length c]) rfl) ?_ rfl rfl; rintro _ _ ⟨b, rfl, rfl⟩); refine R_p rfl ?_ rfl rfl; refine R_nil ?_; refine S_seq rfl ?_; refine S_seq rfl ?_; refine S_region rfl rfl ?_; refine R_p rfl ?_ rfl rfl; refine R_nil ?_; refine S_block rfl ?_)
  refine S_loop (X := Nat) (fun j => [(1, .pointer (some ⟨b, 0, none⟩)), (3, .int .i64 (j : Int))]) (fun _ => [pt b 24 [.slice A L.length c]]) (fun j => j ≤ L.length ∧ j ≤ 32 ∧ goodR L j) (fun j => L.length - j) rfl 0 ⟨Nat.zero_le _, by omega, rfl, rfl⟩ (Sub.cons rfl (Sub.cons rfl Sub.nil)) sub_st ?_
  rintro j ⟨hj, hj32, hok⟩ J hJ
  rcases Nat.lt_or_ge j L.length with hjl | hjl
  · have hne := hne (by omega)
    have hat := fun e v => cellsL_at (f := rwc) rwc_len L default j hjl e v
    have hmem : L.getD j default ∈ L := by simp [List.getD, hjl]
    have hnx := goodR_next hjl hok
    rw [stepB, map_getD L j hjl] at hnx
    have hbd := goodR_bad hmem
    have hst := goodR_step hjl
    rw [stepB, map_getD L j hjl] at hst
    have hpl := hp _ hmem
    obtain ⟨⟨s, t⟩, hx⟩ : ∃ x, L.getD j default = x := ⟨_, rfl⟩
    rw [hx] at hat hmem hnx hbd hst hpl
    have hat0 : (cellsL rwc L)[j * 2 + 0]? = some (sv s) := hat 0 _ rfl
    have hat1 : (cellsL rwc L)[j * 2 + 1]? = some (sv t) := hat 1 _ rfl
    dsimp only at hnx hst hpl
    focus (refine S_seq rfl ?_; refine S_seq rfl ?_; refine S_region rfl rfl ?_; refine R_p rfl ?_ rfl rfl; refine R_p rfl ?_ rfl rfl; refine R_take (T_load rfl rfl rfl (by first | rfl | assumption)) ?_ rfl rfl; refine R_p rfl ?_ rfl rfl; refine R_take (T_decT rfl (by omega)) ?_ rfl rfl; refine R_nil ?_; refine S_true rfl rfl ?_; refine S_skip rfl ?_; refine S_seq rfl ?_; refine S_block rfl ?_; refine S_seq rfl ?_)
    by_cases h32 : j = 32
    · skip
      refine S_draw ([pt b 24 [.slice A L.length c]]) sub_st (by kernel_rfl) rfl (by kernel_rfl) (by kernel_rfl : _ = 42) ?_
      refine D_take 0 rfl (pev_ok rfl) ?_ rfl rfl (by kernel_rfl) (by kernel_rfl)
      refine D_take 1 rfl (T_decT rfl (by omega)) ?_ rfl rfl (by kernel_rfl) (by kernel_rfl)
      refine D_take 2 rfl (pev_ok rfl) ?_ rfl rfl (by kernel_rfl) (by kernel_rfl)
      refine D_skip 3 rfl ?_ rfl rfl (by kernel_rfl) (by kernel_rfl)
      refine D_skip 4 rfl ?_ rfl rfl (by kernel_rfl) (by kernel_rfl)
      refine D_skip 5 rfl ?_ rfl rfl (by kernel_rfl) (by kernel_rfl)
      refine D_skip 6 rfl ?_ rfl rfl (by kernel_rfl) (by kernel_rfl)
      refine D_skip 7 rfl ?_ rfl rfl (by kernel_rfl) (by kernel_rfl)
      refine D_skip 8 rfl ?_ rfl rfl (by kernel_rfl) (by kernel_rfl)
      refine D_skip 9 rfl ?_ rfl rfl (by kernel_rfl) (by kernel_rfl)
      refine D_skip 10 rfl ?_ rfl rfl (by kernel_rfl) (by kernel_rfl)
      refine D_take 11 rfl (pev_ok rfl) ?_ rfl rfl (by kernel_rfl) (by kernel_rfl)
      refine D_take 12 rfl (pev_ok rfl) ?_ rfl rfl (by kernel_rfl) (by kernel_rfl)
      refine D_skip 13 rfl ?_ rfl rfl (by kernel_rfl) (by kernel_rfl)
      refine D_skip 14 rfl ?_ rfl rfl (by kernel_rfl) (by kernel_rfl)
      refine D_skip 15 rfl ?_ rfl rfl (by kernel_rfl) (by kernel_rfl)
      refine D_skip 16 rfl ?_ rfl rfl (by kernel_rfl) (by kernel_rfl)
      refine D_skip 17 rfl ?_ rfl rfl (by kernel_rfl) (by kernel_rfl)
      refine D_skip 18 rfl ?_ rfl rfl (by kernel_rfl) (by kernel_rfl)
      refine D_skip 19 rfl ?_ rfl rfl (by kernel_rfl) (by kernel_rfl)
      refine D_skip 20 rfl ?_ rfl rfl (by kernel_rfl) (by kernel_rfl)
      refine D_take 21 rfl (pev_ok rfl) ?_ rfl rfl (by kernel_rfl) (by kernel_rfl)
      refine D_take 22 rfl (pev_ok rfl) ?_ rfl rfl (by kernel_rfl) (by kernel_rfl)
      refine D_skip 23 rfl ?_ rfl rfl (by kernel_rfl) (by kernel_rfl)
      refine D_skip 24 rfl ?_ rfl rfl (by kernel_rfl) (by kernel_rfl)
      refine D_skip 25 rfl ?_ rfl rfl (by kernel_rfl) (by kernel_rfl)
      refine D_skip 26 rfl ?_ rfl rfl (by kernel_rfl) (by kernel_rfl)
      refine D_skip 27 rfl ?_ rfl rfl (by kernel_rfl) (by kernel_rfl)
      refine D_skip 28 rfl ?_ rfl rfl (by kernel_rfl) (by kernel_rfl)
      refine D_skip 29 rfl ?_ rfl rfl (by kernel_rfl) (by kernel_rfl)
      refine D_skip 30 rfl ?_ rfl rfl (by kernel_rfl) (by kernel_rfl)
      refine D_skip 31 rfl ?_ rfl rfl (by kernel_rfl) (by kernel_rfl)
      refine D_skip 32 rfl ?_ rfl rfl (by kernel_rfl) (by kernel_rfl)
      refine D_skip 33 rfl ?_ rfl rfl (by kernel_rfl) (by kernel_rfl)
      refine D_skip 34 rfl ?_ rfl rfl (by kernel_rfl) (by kernel_rfl)
      refine D_skip 35 rfl ?_ rfl rfl (by kernel_rfl) (by kernel_rfl)
      refine D_skip 36 rfl ?_ rfl rfl (by kernel_rfl) (by kernel_rfl)
      refine D_skip 37 rfl ?_ rfl rfl (by kernel_rfl) (by kernel_rfl)
      refine D_skip 38 rfl ?_ rfl rfl (by kernel_rfl) (by kernel_rfl)
      refine D_skip 39 rfl ?_ rfl rfl (by kernel_rfl) (by kernel_rfl)
      refine D_skip 40 rfl ?_ rfl rfl (by kernel_rfl) (by kernel_rfl)
      refine D_take 41 rfl (pev_ok rfl) ?_ rfl rfl (by kernel_rfl) (by kernel_rfl)
      refine D_done ?_ (by kernel_rfl)
      skip
      focus (refine S_true rfl rfl ?_; refine S_seq rfl ?_; refine S_region rfl rfl ?_; refine R_p rfl ?_ rfl rfl; refine R_nil ?_)
      refine hB _ _ _ _ _ rfl rfl fun w' hS => ⟨(), ?_, trivial, hS.sublist (List.nil_sublist _)⟩
      rw [goodR_full (by omega)]
      rfl
    obtain ⟨r, hr⟩ : ∃ r, pathB s = r := ⟨_, rfl⟩
    rw [hr] at hnx hst
    cases r
    · skip
      refine S_draw ([pt b 24 [.slice A L.length c]]) sub_st (by kernel_rfl) rfl (by kernel_rfl) (by kernel_rfl : _ = 42) ?_
      refine D_take 0 rfl (pev_ok rfl) ?_ rfl rfl (by kernel_rfl) (by kernel_rfl)
      refine D_take 1 rfl (T_decF rfl (by omega)) ?_ rfl rfl (by kernel_rfl) (by kernel_rfl)
      refine D_take 2 rfl (pev_ok rfl) ?_ rfl rfl (by kernel_rfl) (by kernel_rfl)
      refine D_take 3 rfl (pev_ok rfl) ?_ rfl rfl (by kernel_rfl) (by kernel_rfl)
      refine D_take 4 rfl (T_load rfl rfl rfl (by first | rfl | assumption)) ?_ rfl rfl (by kernel_rfl) (by kernel_rfl)
      refine D_take 5 rfl (pev_ok rfl) ?_ rfl rfl (by kernel_rfl) (by kernel_rfl)
      refine D_take 6 rfl (T_ixM (sz := 2) rfl rfl rfl rfl rfl rfl hne hjl) ?_ rfl rfl (by kernel_rfl) (by kernel_rfl)
      refine D_take 7 rfl (T_fap rfl rfl rfl rfl rfl hne) ?_ rfl rfl (by kernel_rfl) (by kernel_rfl)
      refine D_take 8 rfl (T_ldr rfl rfl rfl (Srd.old h (fun k _ => noOwns k)) (by omega) hat0) ?_ rfl rfl (by kernel_rfl) (by kernel_rfl)
      refine D_one 9 rfl (E_rpathW (a := s) (r := false) rfl hpl hr) ?_ rfl rfl (by kernel_rfl)
      rintro _ _ ⟨rfl, rfl⟩
      refine Nx_same sub_st ?_
      refine D_take 10 rfl (T_not rfl) ?_ rfl rfl (by kernel_rfl) (by kernel_rfl)
      refine D_take 11 rfl (pev_ok rfl) ?_ rfl rfl (by kernel_rfl) (by kernel_rfl)
      refine D_take 12 rfl (pev_ok rfl) ?_ rfl rfl (by kernel_rfl) (by kernel_rfl)
      refine D_skip 13 rfl ?_ rfl rfl (by kernel_rfl) (by kernel_rfl)
      refine D_skip 14 rfl ?_ rfl rfl (by kernel_rfl) (by kernel_rfl)
      refine D_skip 15 rfl ?_ rfl rfl (by kernel_rfl) (by kernel_rfl)
      refine D_skip 16 rfl ?_ rfl rfl (by kernel_rfl) (by kernel_rfl)
      refine D_skip 17 rfl ?_ rfl rfl (by kernel_rfl) (by kernel_rfl)
      refine D_skip 18 rfl ?_ rfl rfl (by kernel_rfl) (by kernel_rfl)
      refine D_skip 19 rfl ?_ rfl rfl (by kernel_rfl) (by kernel_rfl)
      refine D_skip 20 rfl ?_ rfl rfl (by kernel_rfl) (by kernel_rfl)
      refine D_take 21 rfl (pev_ok rfl) ?_ rfl rfl (by kernel_rfl) (by kernel_rfl)
      refine D_take 22 rfl (pev_ok rfl) ?_ rfl rfl (by kernel_rfl) (by kernel_rfl)
      refine D_skip 23 rfl ?_ rfl rfl (by kernel_rfl) (by kernel_rfl)
      refine D_skip 24 rfl ?_ rfl rfl (by kernel_rfl) (by kernel_rfl)
      refine D_skip 25 rfl ?_ rfl rfl (by kernel_rfl) (by kernel_rfl)
      refine D_skip 26 rfl ?_ rfl rfl (by kernel_rfl) (by kernel_rfl)
      refine D_skip 27 rfl ?_ rfl rfl (by kernel_rfl) (by kernel_rfl)
      refine D_skip 28 rfl ?_ rfl rfl (by kernel_rfl) (by kernel_rfl)
      refine D_skip 29 rfl ?_ rfl rfl (by kernel_rfl) (by kernel_rfl)
      refine D_skip 30 rfl ?_ rfl rfl (by kernel_rfl) (by kernel_rfl)
      refine D_skip 31 rfl ?_ rfl rfl (by kernel_rfl) (by kernel_rfl)
      refine D_skip 32 rfl ?_ rfl rfl (by kernel_rfl) (by kernel_rfl)
      refine D_skip 33 rfl ?_ rfl rfl (by kernel_rfl) (by kernel_rfl)
      refine D_skip 34 rfl ?_ rfl rfl (by kernel_rfl) (by kernel_rfl)
      refine D_skip 35 rfl ?_ rfl rfl (by kernel_rfl) (by kernel_rfl)
      refine D_skip 36 rfl ?_ rfl rfl (by kernel_rfl) (by kernel_rfl)
      refine D_skip 37 rfl ?_ rfl rfl (by kernel_rfl) (by kernel_rfl)
      refine D_skip 38 rfl ?_ rfl rfl (by kernel_rfl) (by kernel_rfl)
      refine D_skip 39 rfl ?_ rfl rfl (by kernel_rfl) (by kernel_rfl)
      refine D_skip 40 rfl ?_ rfl rfl (by kernel_rfl) (by kernel_rfl)
      refine D_take 41 rfl (pev_ok rfl) ?_ rfl rfl (by kernel_rfl) (by kernel_rfl)
      refine D_done ?_ (by kernel_rfl)
      skip
      focus (refine S_true rfl rfl ?_; refine S_seq rfl ?_; refine S_region rfl rfl ?_; refine R_p rfl ?_ rfl rfl; refine R_nil ?_)
      refine hB _ _ _ _ _ rfl rfl fun w' hS => ⟨(), ?_, trivial, hS.sublist (List.nil_sublist _)⟩
      rw [hst rfl]
      rfl
    rw [Bool.true_and] at hnx hst
    by_cases ht : 256 < t.length
    · skip
      refine S_draw ([pt b 24 [.slice A L.length c]]) sub_st (by kernel_rfl) rfl (by kernel_rfl) (by kernel_rfl : _ = 42) ?_
      refine D_take 0 rfl (pev_ok rfl) ?_ rfl rfl (by kernel_rfl) (by kernel_rfl)
      refine D_take 1 rfl (T_decF rfl (by omega)) ?_ rfl rfl (by kernel_rfl) (by kernel_rfl)
      refine D_take 2 rfl (pev_ok rfl) ?_ rfl rfl (by kernel_rfl) (by kernel_rfl)
      refine D_take 3 rfl (pev_ok rfl) ?_ rfl rfl (by kernel_rfl) (by kernel_rfl)
      refine D_take 4 rfl (T_load rfl rfl rfl (by first | rfl | assumption)) ?_ rfl rfl (by kernel_rfl) (by kernel_rfl)
      refine D_take 5 rfl (pev_ok rfl) ?_ rfl rfl (by kernel_rfl) (by kernel_rfl)
      refine D_take 6 rfl (T_ixM (sz := 2) rfl rfl rfl rfl rfl rfl hne hjl) ?_ rfl rfl (by kernel_rfl) (by kernel_rfl)
      refine D_take 7 rfl (T_fap rfl rfl rfl rfl rfl hne) ?_ rfl rfl (by kernel_rfl) (by kernel_rfl)
      refine D_take 8 rfl (T_ldr rfl rfl rfl (Srd.old h (fun k _ => noOwns k)) (by omega) hat0) ?_ rfl rfl (by kernel_rfl) (by kernel_rfl)
      refine D_one 9 rfl (E_rpathW (a := s) (r := true) rfl hpl hr) ?_ rfl rfl (by kernel_rfl)
      rintro _ _ ⟨rfl, rfl⟩
      refine Nx_same sub_st ?_
      refine D_take 10 rfl (T_not rfl) ?_ rfl rfl (by kernel_rfl) (by kernel_rfl)
      refine D_take 11 rfl (pev_ok rfl) ?_ rfl rfl (by kernel_rfl) (by kernel_rfl)
      refine D_take 12 rfl (pev_ok rfl) ?_ rfl rfl (by kernel_rfl) (by kernel_rfl)
      refine D_take 13 rfl (pev_ok rfl) ?_ rfl rfl (by kernel_rfl) (by kernel_rfl)
      refine D_take 14 rfl (T_load rfl rfl rfl (by first | rfl | assumption)) ?_ rfl rfl (by kernel_rfl) (by kernel_rfl)
      refine D_take 15 rfl (pev_ok rfl) ?_ rfl rfl (by kernel_rfl) (by kernel_rfl)
      refine D_take 16 rfl (T_ixM (sz := 2) rfl rfl rfl rfl rfl rfl hne hjl) ?_ rfl rfl (by kernel_rfl) (by kernel_rfl)
      refine D_take 17 rfl (T_fap rfl rfl rfl rfl rfl hne) ?_ rfl rfl (by kernel_rfl) (by kernel_rfl)
      refine D_take 18 rfl (T_ldr rfl rfl rfl (Srd.old h (fun k _ => noOwns k)) (by omega) hat1) ?_ rfl rfl (by kernel_rfl) (by kernel_rfl)
      refine D_take 19 rfl (T_lens (a := t) rfl rfl rfl) ?_ rfl rfl (by kernel_rfl) (by kernel_rfl)
      refine D_take 20 rfl (T_decT rfl (by omega)) ?_ rfl rfl (by kernel_rfl) (by kernel_rfl)
      refine D_take 21 rfl (pev_ok rfl) ?_ rfl rfl (by kernel_rfl) (by kernel_rfl)
      refine D_take 22 rfl (pev_ok rfl) ?_ rfl rfl (by kernel_rfl) (by kernel_rfl)
      refine D_skip 23 rfl ?_ rfl rfl (by kernel_rfl) (by kernel_rfl)
      refine D_skip 24 rfl ?_ rfl rfl (by kernel_rfl) (by kernel_rfl)
      refine D_skip 25 rfl ?_ rfl rfl (by kernel_rfl) (by kernel_rfl)
      refine D_skip 26 rfl ?_ rfl rfl (by kernel_rfl) (by kernel_rfl)
      refine D_skip 27 rfl ?_ rfl rfl (by kernel_rfl) (by kernel_rfl)
      refine D_skip 28 rfl ?_ rfl rfl (by kernel_rfl) (by kernel_rfl)
      refine D_skip 29 rfl ?_ rfl rfl (by kernel_rfl) (by kernel_rfl)
      refine D_skip 30 rfl ?_ rfl rfl (by kernel_rfl) (by kernel_rfl)
      refine D_skip 31 rfl ?_ rfl rfl (by kernel_rfl) (by kernel_rfl)
      refine D_skip 32 rfl ?_ rfl rfl (by kernel_rfl) (by kernel_rfl)
      refine D_skip 33 rfl ?_ rfl rfl (by kernel_rfl) (by kernel_rfl)
      refine D_skip 34 rfl ?_ rfl rfl (by kernel_rfl) (by kernel_rfl)
      refine D_skip 35 rfl ?_ rfl rfl (by kernel_rfl) (by kernel_rfl)
      refine D_skip 36 rfl ?_ rfl rfl (by kernel_rfl) (by kernel_rfl)
      refine D_skip 37 rfl ?_ rfl rfl (by kernel_rfl) (by kernel_rfl)
      refine D_skip 38 rfl ?_ rfl rfl (by kernel_rfl) (by kernel_rfl)
      refine D_skip 39 rfl ?_ rfl rfl (by kernel_rfl) (by kernel_rfl)
      refine D_skip 40 rfl ?_ rfl rfl (by kernel_rfl) (by kernel_rfl)
      refine D_take 41 rfl (pev_ok rfl) ?_ rfl rfl (by kernel_rfl) (by kernel_rfl)
      refine D_done ?_ (by kernel_rfl)
      skip
      focus (refine S_true rfl rfl ?_; refine S_seq rfl ?_; refine S_region rfl rfl ?_; refine R_p rfl ?_ rfl rfl; refine R_nil ?_)
      refine hB _ _ _ _ _ rfl rfl fun w' hS => ⟨(), ?_, trivial, hS.sublist (List.nil_sublist _)⟩
      rw [hbd (by simp [badR, ht])]
      rfl
    have hnx := hnx (by simp [badR]; omega)
    rcases Nat.eq_zero_or_pos j with hj0 | hj0
    · subst hj0
      refine S_draw ([pt b 24 [.slice A L.length c]]) sub_st (by kernel_rfl) rfl (by kernel_rfl) (by kernel_rfl : _ = 42) ?_
      refine D_take 0 rfl (pev_ok rfl) ?_ rfl rfl (by kernel_rfl) (by kernel_rfl)
      refine D_take 1 rfl (T_decF rfl (by omega)) ?_ rfl rfl (by kernel_rfl) (by kernel_rfl)
      refine D_take 2 rfl (T_decF rfl (by omega)) ?_ rfl rfl (by kernel_rfl) (by kernel_rfl)
      refine D_take 3 rfl (pev_ok rfl) ?_ rfl rfl (by kernel_rfl) (by kernel_rfl)
      refine D_take 4 rfl (T_load rfl rfl rfl (by first | rfl | assumption)) ?_ rfl rfl (by kernel_rfl) (by kernel_rfl)
      refine D_take 5 rfl (pev_ok rfl) ?_ rfl rfl (by kernel_rfl) (by kernel_rfl)
      refine D_take 6 rfl (T_ixM (sz := 2) rfl rfl rfl rfl rfl rfl hne hjl) ?_ rfl rfl (by kernel_rfl) (by kernel_rfl)
      refine D_take 7 rfl (T_fap rfl rfl rfl rfl rfl hne) ?_ rfl rfl (by kernel_rfl) (by kernel_rfl)
      refine D_take 8 rfl (T_ldr rfl rfl rfl (Srd.old h (fun k _ => noOwns k)) (by omega) hat0) ?_ rfl rfl (by kernel_rfl) (by kernel_rfl)
      refine D_one 9 rfl (E_rpathW (a := s) (r := true) rfl hpl hr) ?_ rfl rfl (by kernel_rfl)
      rintro _ _ ⟨rfl, rfl⟩
      refine Nx_same sub_st ?_
      refine D_take 10 rfl (T_not rfl) ?_ rfl rfl (by kernel_rfl) (by kernel_rfl)
      refine D_take 11 rfl (T_decF rfl (by omega)) ?_ rfl rfl (by kernel_rfl) (by kernel_rfl)
      refine D_take 12 rfl (T_decF rfl (by omega)) ?_ rfl rfl (by kernel_rfl) (by kernel_rfl)
      refine D_take 13 rfl (pev_ok rfl) ?_ rfl rfl (by kernel_rfl) (by kernel_rfl)
      refine D_take 14 rfl (T_load rfl rfl rfl (by first | rfl | assumption)) ?_ rfl rfl (by kernel_rfl) (by kernel_rfl)
      refine D_take 15 rfl (pev_ok rfl) ?_ rfl rfl (by kernel_rfl) (by kernel_rfl)
      refine D_take 16 rfl (T_ixM (sz := 2) rfl rfl rfl rfl rfl rfl hne hjl) ?_ rfl rfl (by kernel_rfl) (by kernel_rfl)
      refine D_take 17 rfl (T_fap rfl rfl rfl rfl rfl hne) ?_ rfl rfl (by kernel_rfl) (by kernel_rfl)
      refine D_take 18 rfl (T_ldr rfl rfl rfl (Srd.old h (fun k _ => noOwns k)) (by omega) hat1) ?_ rfl rfl (by kernel_rfl) (by kernel_rfl)
      refine D_take 19 rfl (T_lens (a := t) rfl rfl rfl) ?_ rfl rfl (by kernel_rfl) (by kernel_rfl)
      refine D_take 20 rfl (T_decF rfl (by omega)) ?_ rfl rfl (by kernel_rfl) (by kernel_rfl)
      refine D_take 21 rfl (T_decF rfl (by omega)) ?_ rfl rfl (by kernel_rfl) (by kernel_rfl)
      refine D_take 22 rfl (T_decF rfl (by omega)) ?_ rfl rfl (by kernel_rfl) (by kernel_rfl)
      refine D_take 23 rfl (pev_ok rfl) ?_ rfl rfl (by kernel_rfl) (by kernel_rfl)
      refine D_take 24 rfl (T_decF rfl (by omega)) ?_ rfl rfl (by kernel_rfl) (by kernel_rfl)
      refine D_take 25 rfl (T_decF rfl (by omega)) ?_ rfl rfl (by kernel_rfl) (by kernel_rfl)
      refine D_skip 26 rfl ?_ rfl rfl (by kernel_rfl) (by kernel_rfl)
      refine D_skip 27 rfl ?_ rfl rfl (by kernel_rfl) (by kernel_rfl)
      refine D_skip 28 rfl ?_ rfl rfl (by kernel_rfl) (by kernel_rfl)
      refine D_skip 29 rfl ?_ rfl rfl (by kernel_rfl) (by kernel_rfl)
      refine D_skip 30 rfl ?_ rfl rfl (by kernel_rfl) (by kernel_rfl)
      refine D_skip 31 rfl ?_ rfl rfl (by kernel_rfl) (by kernel_rfl)
      refine D_skip 32 rfl ?_ rfl rfl (by kernel_rfl) (by kernel_rfl)
      refine D_skip 33 rfl ?_ rfl rfl (by kernel_rfl) (by kernel_rfl)
      refine D_skip 34 rfl ?_ rfl rfl (by kernel_rfl) (by kernel_rfl)
      refine D_skip 35 rfl ?_ rfl rfl (by kernel_rfl) (by kernel_rfl)
      refine D_skip 36 rfl ?_ rfl rfl (by kernel_rfl) (by kernel_rfl)
      refine D_skip 37 rfl ?_ rfl rfl (by kernel_rfl) (by kernel_rfl)
      refine D_skip 38 rfl ?_ rfl rfl (by kernel_rfl) (by kernel_rfl)
      refine D_skip 39 rfl ?_ rfl rfl (by kernel_rfl) (by kernel_rfl)
      refine D_take 40 rfl (T_decF rfl (by omega)) ?_ rfl rfl (by kernel_rfl) (by kernel_rfl)
      refine D_take 41 rfl (T_decF rfl (by omega)) ?_ rfl rfl (by kernel_rfl) (by kernel_rfl)
      refine D_done ?_ (by kernel_rfl)
      skip
      focus (refine S_false rfl rfl ?_; refine S_skip rfl ?_; refine RS_blk ?_; refine S_region rfl rfl ?_; refine R_p rfl ?_ rfl rfl; refine R_take (T_addN rfl rfl (by unfold fits; omega)) ?_ rfl rfl; refine R_p rfl ?_ rfl rfl; refine R_nil ?_)
      exact hJ 1 _ _ ⟨by omega, by omega, hnx rfl⟩ (Sub.cons rfl (Sub.cons rfl Sub.nil)) sub_st (by omega)
    obtain ⟨i, rfl⟩ : ∃ i, j = i + 1 := ⟨j - 1, by omega⟩
    have hat2 := fun e v => cellsL_at (f := rwc) rwc_len L default i (by omega) e v
    rw [Nat.add_sub_cancel, map_getD L i (by omega)] at hnx hst
    obtain ⟨⟨u, u2⟩, hy⟩ : ∃ y, L.getD i default = y := ⟨_, rfl⟩
    rw [hy] at hat2 hnx hst
    have hat2 : (cellsL rwc L)[i * 2 + 0]? = some (sv u) := hat2 0 _ rfl
    dsimp only at hnx hst
    have hcm : scmp .leq s u = some (!Op.bytesLess u s) := congrArg some (less_or s u)
    obtain ⟨q, hq⟩ : ∃ q, Op.bytesLess u s = q := ⟨_, rfl⟩
    rw [hq] at hnx hst hcm
    refine S_draw ([pt b 24 [.slice A L.length c]]) sub_st (by kernel_rfl) rfl (by kernel_rfl) (by kernel_rfl : _ = 42) ?_
    refine D_take 0 rfl (pev_ok rfl) ?_ rfl rfl (by kernel_rfl) (by kernel_rfl)
    refine D_take 1 rfl (T_decF rfl (by omega)) ?_ rfl rfl (by kernel_rfl) (by kernel_rfl)
    refine D_take 2 rfl (pev_ok rfl) ?_ rfl rfl (by kernel_rfl) (by kernel_rfl)
    refine D_take 3 rfl (pev_ok rfl) ?_ rfl rfl (by kernel_rfl) (by kernel_rfl)
    refine D_take 4 rfl (T_load rfl rfl rfl (by first | rfl | assumption)) ?_ rfl rfl (by kernel_rfl) (by kernel_rfl)
    refine D_take 5 rfl (pev_ok rfl) ?_ rfl rfl (by kernel_rfl) (by kernel_rfl)
    refine D_take 6 rfl (T_ixM (sz := 2) rfl rfl rfl rfl rfl rfl hne hjl) ?_ rfl rfl (by kernel_rfl) (by kernel_rfl)
    refine D_take 7 rfl (T_fap rfl rfl rfl rfl rfl hne) ?_ rfl rfl (by kernel_rfl) (by kernel_rfl)
    refine D_take 8 rfl (T_ldr rfl rfl rfl (Srd.old h (fun k _ => noOwns k)) (by omega) hat0) ?_ rfl rfl (by kernel_rfl) (by kernel_rfl)
    refine D_one 9 rfl (E_rpathW (a := s) (r := true) rfl hpl hr) ?_ rfl rfl (by kernel_rfl)
    rintro _ _ ⟨rfl, rfl⟩
    refine Nx_same sub_st ?_
    refine D_take 10 rfl (T_not rfl) ?_ rfl rfl (by kernel_rfl) (by kernel_rfl)
    refine D_take 11 rfl (pev_ok rfl) ?_ rfl rfl (by kernel_rfl) (by kernel_rfl)
    refine D_take 12 rfl (pev_ok rfl) ?_ rfl rfl (by kernel_rfl) (by kernel_rfl)
    refine D_take 13 rfl (pev_ok rfl) ?_ rfl rfl (by kernel_rfl) (by kernel_rfl)
    refine D_take 14 rfl (T_load rfl rfl rfl (by first | rfl | assumption)) ?_ rfl rfl (by kernel_rfl) (by kernel_rfl)
    refine D_take 15 rfl (pev_ok rfl) ?_ rfl rfl (by kernel_rfl) (by kernel_rfl)
    refine D_take 16 rfl (T_ixM (sz := 2) rfl rfl rfl rfl rfl rfl hne hjl) ?_ rfl rfl (by kernel_rfl) (by kernel_rfl)
    refine D_take 17 rfl (T_fap rfl rfl rfl rfl rfl hne) ?_ rfl rfl (by kernel_rfl) (by kernel_rfl)
    refine D_take 18 rfl (T_ldr rfl rfl rfl (Srd.old h (fun k _ => noOwns k)) (by omega) hat1) ?_ rfl rfl (by kernel_rfl) (by kernel_rfl)
    refine D_take 19 rfl (T_lens (a := t) rfl rfl rfl) ?_ rfl rfl (by kernel_rfl) (by kernel_rfl)
    refine D_take 20 rfl (T_decF rfl (by omega)) ?_ rfl rfl (by kernel_rfl) (by kernel_rfl)
    refine D_take 21 rfl (pev_ok rfl) ?_ rfl rfl (by kernel_rfl) (by kernel_rfl)
    refine D_take 22 rfl (pev_ok rfl) ?_ rfl rfl (by kernel_rfl) (by kernel_rfl)
    refine D_take 23 rfl (pev_ok rfl) ?_ rfl rfl (by kernel_rfl) (by kernel_rfl)
    refine D_take 24 rfl (T_decT rfl (by omega)) ?_ rfl rfl (by kernel_rfl) (by kernel_rfl)
    refine D_take 25 rfl (pev_ok rfl) ?_ rfl rfl (by kernel_rfl) (by kernel_rfl)
    refine D_take 26 rfl (pev_ok rfl) ?_ rfl rfl (by kernel_rfl) (by kernel_rfl)
    refine D_take 27 rfl (T_load rfl rfl rfl (by first | rfl | assumption)) ?_ rfl rfl (by kernel_rfl) (by kernel_rfl)
    refine D_take 28 rfl (pev_ok rfl) ?_ rfl rfl (by kernel_rfl) (by kernel_rfl)
    refine D_take 29 rfl (T_ixM (sz := 2) rfl rfl rfl rfl rfl rfl hne hjl) ?_ rfl rfl (by kernel_rfl) (by kernel_rfl)
    refine D_take 30 rfl (T_fap rfl rfl rfl rfl rfl hne) ?_ rfl rfl (by kernel_rfl) (by kernel_rfl)
    refine D_take 31 rfl (T_ldr rfl rfl rfl (Srd.old h (fun k _ => noOwns k)) (by omega) hat0) ?_ rfl rfl (by kernel_rfl) (by kernel_rfl)
    refine D_take 32 rfl (pev_ok rfl) ?_ rfl rfl (by kernel_rfl) (by kernel_rfl)
    refine D_take 33 rfl (T_load rfl rfl rfl (by first | rfl | assumption)) ?_ rfl rfl (by kernel_rfl) (by kernel_rfl)
    refine D_take 34 rfl (pev_ok rfl) ?_ rfl rfl (by kernel_rfl) (by kernel_rfl)
    (refine D_take 35 rfl (T_subN rfl rfl (by omega) (by unfold fits; omega)) ?_ rfl rfl (by kernel_rfl) (by kernel_rfl))
    refine D_take 36 rfl (T_ixM (sz := 2) (q := i) rfl rfl rfl rfl rfl rfl hne (by omega)) ?_ rfl rfl (by kernel_rfl) (by kernel_rfl)
    refine D_take 37 rfl (T_fap rfl rfl rfl rfl rfl hne) ?_ rfl rfl (by kernel_rfl) (by kernel_rfl)
    refine D_take 38 rfl (T_ldr rfl rfl rfl (Srd.old h (fun k _ => noOwns k)) (by omega) hat2) ?_ rfl rfl (by kernel_rfl) (by kernel_rfl)
    refine D_take 39 rfl (T_scm (a := s) (b := u) rfl rfl hcm) ?_ rfl rfl (by kernel_rfl) (by kernel_rfl)
    refine D_take 40 rfl (pev_ok rfl) ?_ rfl rfl (by kernel_rfl) (by kernel_rfl)
    refine D_take 41 rfl (pev_ok rfl) ?_ rfl rfl (by kernel_rfl) (by kernel_rfl)
    refine D_done ?_ (by kernel_rfl)
    skip
    cases q
    · focus (refine S_true rfl rfl ?_; refine S_seq rfl ?_; refine S_region rfl rfl ?_; refine R_p rfl ?_ rfl rfl; refine R_nil ?_)
      refine hB _ _ _ _ _ rfl rfl fun w' hS => ⟨(), ?_, trivial, hS.sublist (List.nil_sublist _)⟩
      rw [hst (by simp)]
      rfl
    · focus (refine S_false rfl rfl ?_; refine S_skip rfl ?_; refine RS_blk ?_; refine S_region rfl rfl ?_; refine R_p rfl ?_ rfl rfl; refine R_take (T_addN rfl rfl (by unfold fits; omega)) ?_ rfl rfl; refine R_p rfl ?_ rfl rfl; refine R_nil ?_)
      exact hJ (i + 2) _ _ ⟨by omega, by omega, hnx (by simp)⟩ (Sub.cons rfl (Sub.cons rfl Sub.nil)) sub_st (by omega)
  have hjn : j = L.length := by omega
  subst hjn
  focus (refine S_seq rfl ?_; refine S_seq rfl ?_; refine S_region rfl rfl ?_; refine R_p rfl ?_ rfl rfl; refine R_p rfl ?_ rfl rfl; refine R_take (T_load rfl rfl rfl (by first | rfl | assumption)) ?_ rfl rfl; refine R_p rfl ?_ rfl rfl; refine R_take (T_decF rfl (by omega)) ?_ rfl rfl; refine R_nil ?_; refine S_false rfl rfl ?_; refine S_exit rfl rfl ?_; refine S_seq rfl ?_; refine S_region rfl rfl ?_; refine R_p rfl ?_ rfl rfl; refine R_nil ?_)
  refine hB _ _ _ _ _ rfl rfl fun w' hS => ⟨(), ?_, trivial, hS.sublist (List.nil_sublist _)⟩
  rw [goodR_end hok hj32]
  rfl
end Go.Proofs.Ytghfjfgpiomdhaa

namespace Go.Proofs.Ytghfjfgpiomdhaa
open Go.RowKit
open Asn (pt row rb)
set_option linter.unusedVariables false
set_option linter.unusedSimpArgs false
--@use N

set_option maxRecDepth 100000 in
set_option maxHeartbeats 4000000 in
theorem rightC_any (w : World) (A : Option Addr) (n c : Nat) (L : List Ch) (h : Rd w All 3 A n (cellsL chc L)) (hn : n ≤ 100000) (hp : ∀ x ∈ L, x.1.length ≤ 100000) :
    Gives Try.prog 16 [.agg #[.slice A n c]] [] w (X := Unit) (fun _ => .bool (chkC L)) (fun _ => True) (fun _ => []) := by
  refine gives_S Try.func16 rfl Try.ntmps16 Try.results16 (by simp) (St.enter w) (fun B hB => ?_)
  have hl : L.length = n := by have := h.1; rw [cellsL_len chc_len] at this; omega
  have hne : 0 < n → A ≠ none := fun h0 => by obtain ⟨ad, rfl, _⟩ := h.2 (by omega); simp
  subst hl
  focus (refine S_seq rfl ?_; refine S_region rfl rfl ?_; (refine R_eff (E_boxa (cs := [.slice A L.length c]) rfl) ?_ rfl rfl; rintro _ _ ⟨b, rfl, rfl⟩); refine R_p rfl ?_ rfl rfl; refine R_nil ?_; refine S_seq rfl ?_; refine S_seq rfl ?_; refine S_region rfl rfl ?_; refine R_p rfl ?_ rfl rfl; refine R_nil ?_; refine S_block rfl ?_)
  refine S_loop (X := Nat) (fun j => [(1, .pointer (some ⟨b, 0, none⟩)), (3, .int .i64 (j : Int))]) (fun _ => [pt b 29 [.slice A L.length c]]) (fun j => j ≤ L.length ∧ j ≤ 32 ∧ goodC L j) (fun j => L.length - j) rfl 0 ⟨Nat.zero_le _, by omega, rfl, rfl⟩ (Sub.cons rfl (Sub.cons rfl Sub.nil)) sub_st ?_
  rintro j ⟨hj, hj32, hok⟩ J hJ
  rcases Nat.lt_or_ge j L.length with hjl | hjl
  · have hne := hne (by omega)
    have hat := fun e v => cellsL_at (f := chc) chc_len L default j hjl e v
    have hmem : L.getD j default ∈ L := by simp [List.getD, hjl]
    have hnx := goodC_next hjl hok
    rw [stepB, map_getD L j hjl] at hnx
    have hbd := goodC_bad hmem
    have hst := goodC_step hjl
    rw [stepB, map_getD L j hjl] at hst
    have hpl := hp _ hmem
    obtain ⟨⟨s, is, t⟩, hx⟩ : ∃ x, L.getD j default = x := ⟨_, rfl⟩
    rw [hx] at hat hmem hnx hbd hst hpl
    dsimp only at hnx hst hpl
    focus (refine S_seq rfl ?_; refine S_seq rfl ?_; refine S_region rfl rfl ?_; refine R_p rfl ?_ rfl rfl; refine R_p rfl ?_ rfl rfl; refine R_take (T_load rfl rfl rfl (by first | rfl | assumption)) ?_ rfl rfl; refine R_p rfl ?_ rfl rfl; refine R_take (T_decT rfl (by omega)) ?_ rfl rfl; refine R_nil ?_; refine S_true rfl rfl ?_; refine S_skip rfl ?_; refine S_seq rfl ?_; refine S_block rfl ?_; refine S_seq rfl ?_; refine S_region rfl rfl ?_; refine R_p rfl ?_ rfl rfl; refine R_take (T_load rfl rfl rfl (by first | rfl | assumption)) ?_ rfl rfl; refine R_p rfl ?_ rfl rfl; refine R_take (T_ixM (sz := 3) rfl rfl rfl rfl rfl rfl hne hjl) ?_ rfl rfl; refine R_take (T_lda (ds := chc (s, is, t)) rfl rfl rfl (Srd.old h (fun k _ => noOwns k)) rfl (by omega) hat) ?_ rfl rfl; (refine R_eff (E_alloca rfl chc_zero) ?_ rfl rfl; rintro _ _ ⟨b4, rfl, rfl⟩); (refine R_eff0 (E_storew (cs := chc default) (ds := chc (s, is, t)) rfl rfl rfl rfl (chc_one _) rfl) ?_ rfl; rintro _ _ rfl); refine R_nil ?_; refine S_seq rfl ?_)
    by_cases h32 : j = 32
    · skip
      refine S_draw ([pt b4 73 (chc (s, is, t)), pt b 29 [.slice A L.length c]]) sub_st (by kernel_rfl) rfl (by kernel_rfl) (by kernel_rfl : _ = 40) ?_
      refine D_take 0 rfl (pev_ok rfl) ?_ rfl rfl (by kernel_rfl) (by kernel_rfl)
      refine D_take 1 rfl (T_decT rfl (by omega)) ?_ rfl rfl (by kernel_rfl) (by kernel_rfl)
      refine D_take 2 rfl (pev_ok rfl) ?_ rfl rfl (by kernel_rfl) (by kernel_rfl)
      refine D_skip 3 rfl ?_ rfl rfl (by kernel_rfl) (by kernel_rfl)
      refine D_skip 4 rfl ?_ rfl rfl (by kernel_rfl) (by kernel_rfl)
      refine D_skip 5 rfl ?_ rfl rfl (by kernel_rfl) (by kernel_rfl)
      refine D_skip 6 rfl ?_ rfl rfl (by kernel_rfl) (by kernel_rfl)
      refine D_take 7 rfl (pev_ok rfl) ?_ rfl rfl (by kernel_rfl) (by kernel_rfl)
      refine D_take 8 rfl (pev_ok rfl) ?_ rfl rfl (by kernel_rfl) (by kernel_rfl)
      refine D_skip 9 rfl ?_ rfl rfl (by kernel_rfl) (by kernel_rfl)
      refine D_skip 10 rfl ?_ rfl rfl (by kernel_rfl) (by kernel_rfl)
      refine D_skip 11 rfl ?_ rfl rfl (by kernel_rfl) (by kernel_rfl)
      refine D_skip 12 rfl ?_ rfl rfl (by kernel_rfl) (by kernel_rfl)
      refine D_take 13 rfl (pev_ok rfl) ?_ rfl rfl (by kernel_rfl) (by kernel_rfl)
      refine D_take 14 rfl (pev_ok rfl) ?_ rfl rfl (by kernel_rfl) (by kernel_rfl)
      refine D_skip 15 rfl ?_ rfl rfl (by kernel_rfl) (by kernel_rfl)
      refine D_skip 16 rfl ?_ rfl rfl (by kernel_rfl) (by kernel_rfl)
      refine D_skip 17 rfl ?_ rfl rfl (by kernel_rfl) (by kernel_rfl)
      refine D_skip 18 rfl ?_ rfl rfl (by kernel_rfl) (by kernel_rfl)
      refine D_skip 19 rfl ?_ rfl rfl (by kernel_rfl) (by kernel_rfl)
      refine D_skip 20 rfl ?_ rfl rfl (by kernel_rfl) (by kernel_rfl)
      refine D_skip 21 rfl ?_ rfl rfl (by kernel_rfl) (by kernel_rfl)
      refine D_skip 22 rfl ?_ rfl rfl (by kernel_rfl) (by kernel_rfl)
      refine D_take 23 rfl (pev_ok rfl) ?_ rfl rfl (by kernel_rfl) (by kernel_rfl)
      refine D_take 24 rfl (pev_ok rfl) ?_ rfl rfl (by kernel_rfl) (by kernel_rfl)
      refine D_skip 25 rfl ?_ rfl rfl (by kernel_rfl) (by kernel_rfl)
      refine D_skip 26 rfl ?_ rfl rfl (by kernel_rfl) (by kernel_rfl)
      refine D_skip 27 rfl ?_ rfl rfl (by kernel_rfl) (by kernel_rfl)
      refine D_skip 28 rfl ?_ rfl rfl (by kernel_rfl) (by kernel_rfl)
      refine D_skip 29 rfl ?_ rfl rfl (by kernel_rfl) (by kernel_rfl)
      refine D_skip 30 rfl ?_ rfl rfl (by kernel_rfl) (by kernel_rfl)
      refine D_skip 31 rfl ?_ rfl rfl (by kernel_rfl) (by kernel_rfl)
      refine D_skip 32 rfl ?_ rfl rfl (by kernel_rfl) (by kernel_rfl)
      refine D_skip 33 rfl ?_ rfl rfl (by kernel_rfl) (by kernel_rfl)
      refine D_skip 34 rfl ?_ rfl rfl (by kernel_rfl) (by kernel_rfl)
      refine D_skip 35 rfl ?_ rfl rfl (by kernel_rfl) (by kernel_rfl)
      refine D_skip 36 rfl ?_ rfl rfl (by kernel_rfl) (by kernel_rfl)
      refine D_skip 37 rfl ?_ rfl rfl (by kernel_rfl) (by kernel_rfl)
      refine D_skip 38 rfl ?_ rfl rfl (by kernel_rfl) (by kernel_rfl)
      refine D_take 39 rfl (pev_ok rfl) ?_ rfl rfl (by kernel_rfl) (by kernel_rfl)
      refine D_done ?_ (by kernel_rfl)
      skip
      focus (refine S_true rfl rfl ?_; refine S_seq rfl ?_; refine S_region rfl rfl ?_; refine R_p rfl ?_ rfl rfl; refine R_nil ?_)
      refine hB _ _ _ _ _ rfl rfl fun w' hS => ⟨(), ?_, trivial, hS.sublist (List.nil_sublist _)⟩
      rw [goodC_full (by omega)]
      rfl
    obtain ⟨r, hr⟩ : ∃ r, pathB s = r := ⟨_, rfl⟩
    rw [hr] at hnx hst
    cases r
    · skip
      refine S_draw ([pt b4 73 (chc (s, is, t)), pt b 29 [.slice A L.length c]]) sub_st (by kernel_rfl) rfl (by kernel_rfl) (by kernel_rfl : _ = 40) ?_
      refine D_take 0 rfl (pev_ok rfl) ?_ rfl rfl (by kernel_rfl) (by kernel_rfl)
      refine D_take 1 rfl (T_decF rfl (by omega)) ?_ rfl rfl (by kernel_rfl) (by kernel_rfl)
      refine D_take 2 rfl (pev_ok rfl) ?_ rfl rfl (by kernel_rfl) (by kernel_rfl)
      refine D_take 3 rfl (pev_ok rfl) ?_ rfl rfl (by kernel_rfl) (by kernel_rfl)
      refine D_take 4 rfl (T_load rfl rfl rfl (by first | rfl | assumption)) ?_ rfl rfl (by kernel_rfl) (by kernel_rfl)
      refine D_one 5 rfl (E_rpathW (a := s) (r := false) rfl hpl hr) ?_ rfl rfl (by kernel_rfl)
      rintro _ _ ⟨rfl, rfl⟩
      refine Nx_same sub_st ?_
      refine D_take 6 rfl (T_not rfl) ?_ rfl rfl (by kernel_rfl) (by kernel_rfl)
      refine D_take 7 rfl (pev_ok rfl) ?_ rfl rfl (by kernel_rfl) (by kernel_rfl)
      refine D_take 8 rfl (pev_ok rfl) ?_ rfl rfl (by kernel_rfl) (by kernel_rfl)
      refine D_skip 9 rfl ?_ rfl rfl (by kernel_rfl) (by kernel_rfl)
      refine D_skip 10 rfl ?_ rfl rfl (by kernel_rfl) (by kernel_rfl)
      refine D_skip 11 rfl ?_ rfl rfl (by kernel_rfl) (by kernel_rfl)
      refine D_skip 12 rfl ?_ rfl rfl (by kernel_rfl) (by kernel_rfl)
      refine D_take 13 rfl (pev_ok rfl) ?_ rfl rfl (by kernel_rfl) (by kernel_rfl)
      refine D_take 14 rfl (pev_ok rfl) ?_ rfl rfl (by kernel_rfl) (by kernel_rfl)
      refine D_skip 15 rfl ?_ rfl rfl (by kernel_rfl) (by kernel_rfl)
      refine D_skip 16 rfl ?_ rfl rfl (by kernel_rfl) (by kernel_rfl)
      refine D_skip 17 rfl ?_ rfl rfl (by kernel_rfl) (by kernel_rfl)
      refine D_skip 18 rfl ?_ rfl rfl (by kernel_rfl) (by kernel_rfl)
      refine D_skip 19 rfl ?_ rfl rfl (by kernel_rfl) (by kernel_rfl)
      refine D_skip 20 rfl ?_ rfl rfl (by kernel_rfl) (by kernel_rfl)
      refine D_skip 21 rfl ?_ rfl rfl (by kernel_rfl) (by kernel_rfl)
      refine D_skip 22 rfl ?_ rfl rfl (by kernel_rfl) (by kernel_rfl)
      refine D_take 23 rfl (pev_ok rfl) ?_ rfl rfl (by kernel_rfl) (by kernel_rfl)
      refine D_take 24 rfl (pev_ok rfl) ?_ rfl rfl (by kernel_rfl) (by kernel_rfl)
      refine D_skip 25 rfl ?_ rfl rfl (by kernel_rfl) (by kernel_rfl)
      refine D_skip 26 rfl ?_ rfl rfl (by kernel_rfl) (by kernel_rfl)
      refine D_skip 27 rfl ?_ rfl rfl (by kernel_rfl) (by kernel_rfl)
      refine D_skip 28 rfl ?_ rfl rfl (by kernel_rfl) (by kernel_rfl)
      refine D_skip 29 rfl ?_ rfl rfl (by kernel_rfl) (by kernel_rfl)
      refine D_skip 30 rfl ?_ rfl rfl (by kernel_rfl) (by kernel_rfl)
      refine D_skip 31 rfl ?_ rfl rfl (by kernel_rfl) (by kernel_rfl)
      refine D_skip 32 rfl ?_ rfl rfl (by kernel_rfl) (by kernel_rfl)
      refine D_skip 33 rfl ?_ rfl rfl (by kernel_rfl) (by kernel_rfl)
      refine D_skip 34 rfl ?_ rfl rfl (by kernel_rfl) (by kernel_rfl)
      refine D_skip 35 rfl ?_ rfl rfl (by kernel_rfl) (by kernel_rfl)
      refine D_skip 36 rfl ?_ rfl rfl (by kernel_rfl) (by kernel_rfl)
      refine D_skip 37 rfl ?_ rfl rfl (by kernel_rfl) (by kernel_rfl)
      refine D_skip 38 rfl ?_ rfl rfl (by kernel_rfl) (by kernel_rfl)
      refine D_take 39 rfl (pev_ok rfl) ?_ rfl rfl (by kernel_rfl) (by kernel_rfl)
      refine D_done ?_ (by kernel_rfl)
      skip
      focus (refine S_true rfl rfl ?_; refine S_seq rfl ?_; refine S_region rfl rfl ?_; refine R_p rfl ?_ rfl rfl; refine R_nil ?_)
      refine hB _ _ _ _ _ rfl rfl fun w' hS => ⟨(), ?_, trivial, hS.sublist (List.nil_sublist _)⟩
      rw [hst rfl]
      rfl
    rw [Bool.true_and] at hnx hst
    by_cases ht : 256 < t.length
    · skip
      refine S_draw ([pt b4 73 (chc (s, is, t)), pt b 29 [.slice A L.length c]]) sub_st (by kernel_rfl) rfl (by kernel_rfl) (by kernel_rfl : _ = 40) ?_
      refine D_take 0 rfl (pev_ok rfl) ?_ rfl rfl (by kernel_rfl) (by kernel_rfl)
      refine D_take 1 rfl (T_decF rfl (by omega)) ?_ rfl rfl (by kernel_rfl) (by kernel_rfl)
      refine D_take 2 rfl (pev_ok rfl) ?_ rfl rfl (by kernel_rfl) (by kernel_rfl)
      refine D_take 3 rfl (pev_ok rfl) ?_ rfl rfl (by kernel_rfl) (by kernel_rfl)
      refine D_take 4 rfl (T_load rfl rfl rfl (by first | rfl | assumption)) ?_ rfl rfl (by kernel_rfl) (by kernel_rfl)
      refine D_one 5 rfl (E_rpathW (a := s) (r := true) rfl hpl hr) ?_ rfl rfl (by kernel_rfl)
      rintro _ _ ⟨rfl, rfl⟩
      refine Nx_same sub_st ?_
      refine D_take 6 rfl (T_not rfl) ?_ rfl rfl (by kernel_rfl) (by kernel_rfl)
      refine D_take 7 rfl (pev_ok rfl) ?_ rfl rfl (by kernel_rfl) (by kernel_rfl)
      refine D_take 8 rfl (pev_ok rfl) ?_ rfl rfl (by kernel_rfl) (by kernel_rfl)
      refine D_take 9 rfl (pev_ok rfl) ?_ rfl rfl (by kernel_rfl) (by kernel_rfl)
      refine D_take 10 rfl (T_load rfl rfl rfl (by first | rfl | assumption)) ?_ rfl rfl (by kernel_rfl) (by kernel_rfl)
      refine D_take 11 rfl (T_lens (a := t) rfl rfl rfl) ?_ rfl rfl (by kernel_rfl) (by kernel_rfl)
      refine D_take 12 rfl (T_decT rfl (by omega)) ?_ rfl rfl (by kernel_rfl) (by kernel_rfl)
      refine D_take 13 rfl (pev_ok rfl) ?_ rfl rfl (by kernel_rfl) (by kernel_rfl)
      refine D_take 14 rfl (pev_ok rfl) ?_ rfl rfl (by kernel_rfl) (by kernel_rfl)
      refine D_skip 15 rfl ?_ rfl rfl (by kernel_rfl) (by kernel_rfl)
      refine D_skip 16 rfl ?_ rfl rfl (by kernel_rfl) (by kernel_rfl)
      refine D_skip 17 rfl ?_ rfl rfl (by kernel_rfl) (by kernel_rfl)
      refine D_skip 18 rfl ?_ rfl rfl (by kernel_rfl) (by kernel_rfl)
      refine D_skip 19 rfl ?_ rfl rfl (by kernel_rfl) (by kernel_rfl)
      refine D_skip 20 rfl ?_ rfl rfl (by kernel_rfl) (by kernel_rfl)
      refine D_skip 21 rfl ?_ rfl rfl (by kernel_rfl) (by kernel_rfl)
      refine D_skip 22 rfl ?_ rfl rfl (by kernel_rfl) (by kernel_rfl)
      refine D_take 23 rfl (pev_ok rfl) ?_ rfl rfl (by kernel_rfl) (by kernel_rfl)
      refine D_take 24 rfl (pev_ok rfl) ?_ rfl rfl (by kernel_rfl) (by kernel_rfl)
      refine D_skip 25 rfl ?_ rfl rfl (by kernel_rfl) (by kernel_rfl)
      refine D_skip 26 rfl ?_ rfl rfl (by kernel_rfl) (by kernel_rfl)
      refine D_skip 27 rfl ?_ rfl rfl (by kernel_rfl) (by kernel_rfl)
      refine D_skip 28 rfl ?_ rfl rfl (by kernel_rfl) (by kernel_rfl)
      refine D_skip 29 rfl ?_ rfl rfl (by kernel_rfl) (by kernel_rfl)
      refine D_skip 30 rfl ?_ rfl rfl (by kernel_rfl) (by kernel_rfl)
      refine D_skip 31 rfl ?_ rfl rfl (by kernel_rfl) (by kernel_rfl)
      refine D_skip 32 rfl ?_ rfl rfl (by kernel_rfl) (by kernel_rfl)
      refine D_skip 33 rfl ?_ rfl rfl (by kernel_rfl) (by kernel_rfl)
      refine D_skip 34 rfl ?_ rfl rfl (by kernel_rfl) (by kernel_rfl)
      refine D_skip 35 rfl ?_ rfl rfl (by kernel_rfl) (by kernel_rfl)
      refine D_skip 36 rfl ?_ rfl rfl (by kernel_rfl) (by kernel_rfl)
      refine D_skip 37 rfl ?_ rfl rfl (by kernel_rfl) (by kernel_rfl)
      refine D_skip 38 rfl ?_ rfl rfl (by kernel_rfl) (by kernel_rfl)
      refine D_take 39 rfl (pev_ok rfl) ?_ rfl rfl (by kernel_rfl) (by kernel_rfl)
      refine D_done ?_ (by kernel_rfl)
      skip
      focus (refine S_true rfl rfl ?_; refine S_seq rfl ?_; refine S_region rfl rfl ?_; refine R_p rfl ?_ rfl rfl; refine R_nil ?_)
      refine hB _ _ _ _ _ rfl rfl fun w' hS => ⟨(), ?_, trivial, hS.sublist (List.nil_sublist _)⟩
      rw [hbd (by simp [badC, ht])]
      rfl
    have hn0 : scmp .neq t [] = some (decide (t ≠ [])) := rfl
    obtain ⟨e, he⟩ : ∃ e, (!is && decide (t ≠ [])) = e := ⟨_, rfl⟩
    have hbc : badC (s, is, t) = e := by
      rw [badC, he]
      show (decide (256 < t.length) || e) = e
      rw [decide_eq_false ht, Bool.false_or]
    obtain ⟨e1, he1⟩ : ∃ e1, decide (t ≠ []) = e1 := ⟨_, rfl⟩
    rw [he1] at hn0 he
    rw [hbc] at hbd
    cases is
    · cases e1
      · skip
        obtain rfl : e = false := he.symm
        have hnx := hnx hbc
        rcases Nat.eq_zero_or_pos j with hj0 | hj0
        · subst hj0
          refine S_draw ([pt b4 73 (chc (s, false, t)), pt b 29 [.slice A L.length c]]) sub_st (by kernel_rfl) rfl (by kernel_rfl) (by kernel_rfl : _ = 40) ?_
          refine D_take 0 rfl (pev_ok rfl) ?_ rfl rfl (by kernel_rfl) (by kernel_rfl)
          refine D_take 1 rfl (T_decF rfl (by omega)) ?_ rfl rfl (by kernel_rfl) (by kernel_rfl)
          refine D_take 2 rfl (T_decF rfl (by omega)) ?_ rfl rfl (by kernel_rfl) (by kernel_rfl)
          refine D_take 3 rfl (pev_ok rfl) ?_ rfl rfl (by kernel_rfl) (by kernel_rfl)
          refine D_take 4 rfl (T_load rfl rfl rfl (by first | rfl | assumption)) ?_ rfl rfl (by kernel_rfl) (by kernel_rfl)
          refine D_one 5 rfl (E_rpathW (a := s) (r := true) rfl hpl hr) ?_ rfl rfl (by kernel_rfl)
          rintro _ _ ⟨rfl, rfl⟩
          refine Nx_same sub_st ?_
          refine D_take 6 rfl (T_not rfl) ?_ rfl rfl (by kernel_rfl) (by kernel_rfl)
          refine D_take 7 rfl (T_decF rfl (by omega)) ?_ rfl rfl (by kernel_rfl) (by kernel_rfl)
          refine D_take 8 rfl (T_decF rfl (by omega)) ?_ rfl rfl (by kernel_rfl) (by kernel_rfl)
          refine D_take 9 rfl (pev_ok rfl) ?_ rfl rfl (by kernel_rfl) (by kernel_rfl)
          refine D_take 10 rfl (T_load rfl rfl rfl (by first | rfl | assumption)) ?_ rfl rfl (by kernel_rfl) (by kernel_rfl)
          refine D_take 11 rfl (T_lens (a := t) rfl rfl rfl) ?_ rfl rfl (by kernel_rfl) (by kernel_rfl)
          refine D_take 12 rfl (T_decF rfl (by omega)) ?_ rfl rfl (by kernel_rfl) (by kernel_rfl)
          refine D_take 13 rfl (T_decF rfl (by omega)) ?_ rfl rfl (by kernel_rfl) (by kernel_rfl)
          refine D_take 14 rfl (T_decF rfl (by omega)) ?_ rfl rfl (by kernel_rfl) (by kernel_rfl)
          refine D_take 15 rfl (pev_ok rfl) ?_ rfl rfl (by kernel_rfl) (by kernel_rfl)
          refine D_take 16 rfl (T_load rfl rfl rfl (by first | rfl | assumption)) ?_ rfl rfl (by kernel_rfl) (by kernel_rfl)
          refine D_take 17 rfl (T_not rfl) ?_ rfl rfl (by kernel_rfl) (by kernel_rfl)
          refine D_take 18 rfl (pev_ok rfl) ?_ rfl rfl (by kernel_rfl) (by kernel_rfl)
          refine D_take 19 rfl (pev_ok rfl) ?_ rfl rfl (by kernel_rfl) (by kernel_rfl)
          refine D_take 20 rfl (T_load rfl rfl rfl (by first | rfl | assumption)) ?_ rfl rfl (by kernel_rfl) (by kernel_rfl)
          refine D_take 21 rfl (T_scm (a := t) (b := []) rfl rfl hn0) ?_ rfl rfl (by kernel_rfl) (by kernel_rfl)
          refine D_take 22 rfl (T_decF rfl (by omega)) ?_ rfl rfl (by kernel_rfl) (by kernel_rfl)
          refine D_take 23 rfl (T_decF rfl (by omega)) ?_ rfl rfl (by kernel_rfl) (by kernel_rfl)
          refine D_take 24 rfl (T_decF rfl (by omega)) ?_ rfl rfl (by kernel_rfl) (by kernel_rfl)
          refine D_take 25 rfl (pev_ok rfl) ?_ rfl rfl (by kernel_rfl) (by kernel_rfl)
          refine D_take 26 rfl (T_decF rfl (by omega)) ?_ rfl rfl (by kernel_rfl) (by kernel_rfl)
          refine D_take 27 rfl (T_decF rfl (by omega)) ?_ rfl rfl (by kernel_rfl) (by kernel_rfl)
          refine D_skip 28 rfl ?_ rfl rfl (by kernel_rfl) (by kernel_rfl)
          refine D_skip 29 rfl ?_ rfl rfl (by kernel_rfl) (by kernel_rfl)
          refine D_skip 30 rfl ?_ rfl rfl (by kernel_rfl) (by kernel_rfl)
          refine D_skip 31 rfl ?_ rfl rfl (by kernel_rfl) (by kernel_rfl)
          refine D_skip 32 rfl ?_ rfl rfl (by kernel_rfl) (by kernel_rfl)
          refine D_skip 33 rfl ?_ rfl rfl (by kernel_rfl) (by kernel_rfl)
          refine D_skip 34 rfl ?_ rfl rfl (by kernel_rfl) (by kernel_rfl)
          refine D_skip 35 rfl ?_ rfl rfl (by kernel_rfl) (by kernel_rfl)
          refine D_skip 36 rfl ?_ rfl rfl (by kernel_rfl) (by kernel_rfl)
          refine D_skip 37 rfl ?_ rfl rfl (by kernel_rfl) (by kernel_rfl)
          refine D_take 38 rfl (T_decF rfl (by omega)) ?_ rfl rfl (by kernel_rfl) (by kernel_rfl)
          refine D_take 39 rfl (T_decF rfl (by omega)) ?_ rfl rfl (by kernel_rfl) (by kernel_rfl)
          refine D_done ?_ (by kernel_rfl)
          skip
          focus (refine S_false rfl rfl ?_; refine S_skip rfl ?_; refine RS_blk ?_; refine S_region rfl rfl ?_; refine R_p rfl ?_ rfl rfl; refine R_take (T_addN rfl rfl (by unfold fits; omega)) ?_ rfl rfl; refine R_p rfl ?_ rfl rfl; refine R_nil ?_)
          exact hJ 1 _ _ ⟨by omega, by omega, hnx rfl⟩ (Sub.cons rfl (Sub.cons rfl Sub.nil)) sub_st (by omega)
        obtain ⟨i, rfl⟩ : ∃ i, j = i + 1 := ⟨j - 1, by omega⟩
        have hat2 := fun e v => cellsL_at (f := chc) chc_len L default i (by omega) e v
        rw [Nat.add_sub_cancel, map_getD L i (by omega)] at hnx hst
        obtain ⟨⟨u, u2, u3⟩, hy⟩ : ∃ y, L.getD i default = y := ⟨_, rfl⟩
        rw [hy] at hat2 hnx hst
        have hat2 : (cellsL chc L)[i * 3 + 0]? = some (sv u) := hat2 0 _ rfl
        dsimp only at hnx hst
        have hcm : scmp .leq s u = some (!Op.bytesLess u s) := congrArg some (less_or s u)
        obtain ⟨q, hq⟩ : ∃ q, Op.bytesLess u s = q := ⟨_, rfl⟩
        rw [hq] at hnx hst hcm
        refine S_draw ([pt b4 73 (chc (s, false, t)), pt b 29 [.slice A L.length c]]) sub_st (by kernel_rfl) rfl (by kernel_rfl) (by kernel_rfl : _ = 40) ?_
        refine D_take 0 rfl (pev_ok rfl) ?_ rfl rfl (by kernel_rfl) (by kernel_rfl)
        refine D_take 1 rfl (T_decF rfl (by omega)) ?_ rfl rfl (by kernel_rfl) (by kernel_rfl)
        refine D_take 2 rfl (pev_ok rfl) ?_ rfl rfl (by kernel_rfl) (by kernel_rfl)
        refine D_take 3 rfl (pev_ok rfl) ?_ rfl rfl (by kernel_rfl) (by kernel_rfl)
        refine D_take 4 rfl (T_load rfl rfl rfl (by first | rfl | assumption)) ?_ rfl rfl (by kernel_rfl) (by kernel_rfl)
        refine D_one 5 rfl (E_rpathW (a := s) (r := true) rfl hpl hr) ?_ rfl rfl (by kernel_rfl)
        rintro _ _ ⟨rfl, rfl⟩
        refine Nx_same sub_st ?_
        refine D_take 6 rfl (T_not rfl) ?_ rfl rfl (by kernel_rfl) (by kernel_rfl)
        refine D_take 7 rfl (pev_ok rfl) ?_ rfl rfl (by kernel_rfl) (by kernel_rfl)
        refine D_take 8 rfl (pev_ok rfl) ?_ rfl rfl (by kernel_rfl) (by kernel_rfl)
        refine D_take 9 rfl (pev_ok rfl) ?_ rfl rfl (by kernel_rfl) (by kernel_rfl)
        refine D_take 10 rfl (T_load rfl rfl rfl (by first | rfl | assumption)) ?_ rfl rfl (by kernel_rfl) (by kernel_rfl)
        refine D_take 11 rfl (T_lens (a := t) rfl rfl rfl) ?_ rfl rfl (by kernel_rfl) (by kernel_rfl)
        refine D_take 12 rfl (T_decF rfl (by omega)) ?_ rfl rfl (by kernel_rfl) (by kernel_rfl)
        refine D_take 13 rfl (pev_ok rfl) ?_ rfl rfl (by kernel_rfl) (by kernel_rfl)
        refine D_take 14 rfl (pev_ok rfl) ?_ rfl rfl (by kernel_rfl) (by kernel_rfl)
        refine D_take 15 rfl (pev_ok rfl) ?_ rfl rfl (by kernel_rfl) (by kernel_rfl)
        refine D_take 16 rfl (T_load rfl rfl rfl (by first | rfl | assumption)) ?_ rfl rfl (by kernel_rfl) (by kernel_rfl)
        refine D_take 17 rfl (T_not rfl) ?_ rfl rfl (by kernel_rfl) (by kernel_rfl)
        refine D_take 18 rfl (pev_ok rfl) ?_ rfl rfl (by kernel_rfl) (by kernel_rfl)
        refine D_take 19 rfl (pev_ok rfl) ?_ rfl rfl (by kernel_rfl) (by kernel_rfl)
        refine D_take 20 rfl (T_load rfl rfl rfl (by first | rfl | assumption)) ?_ rfl rfl (by kernel_rfl) (by kernel_rfl)
        refine D_take 21 rfl (T_scm (a := t) (b := []) rfl rfl hn0) ?_ rfl rfl (by kernel_rfl) (by kernel_rfl)
        refine D_take 22 rfl (pev_ok rfl) ?_ rfl rfl (by kernel_rfl) (by kernel_rfl)
        refine D_take 23 rfl (pev_ok rfl) ?_ rfl rfl (by kernel_rfl) (by kernel_rfl)
        refine D_take 24 rfl (pev_ok rfl) ?_ rfl rfl (by kernel_rfl) (by kernel_rfl)
        refine D_take 25 rfl (pev_ok rfl) ?_ rfl rfl (by kernel_rfl) (by kernel_rfl)
        refine D_take 26 rfl (T_decT rfl (by omega)) ?_ rfl rfl (by kernel_rfl) (by kernel_rfl)
        refine D_take 27 rfl (pev_ok rfl) ?_ rfl rfl (by kernel_rfl) (by kernel_rfl)
        refine D_take 28 rfl (pev_ok rfl) ?_ rfl rfl (by kernel_rfl) (by kernel_rfl)
        refine D_take 29 rfl (T_load rfl rfl rfl (by first | rfl | assumption)) ?_ rfl rfl (by kernel_rfl) (by kernel_rfl)
        refine D_take 30 rfl (pev_ok rfl) ?_ rfl rfl (by kernel_rfl) (by kernel_rfl)
        refine D_take 31 rfl (T_load rfl rfl rfl (by first | rfl | assumption)) ?_ rfl rfl (by kernel_rfl) (by kernel_rfl)
        refine D_take 32 rfl (pev_ok rfl) ?_ rfl rfl (by kernel_rfl) (by kernel_rfl)
        (refine D_take 33 rfl (T_subN rfl rfl (by omega) (by unfold fits; omega)) ?_ rfl rfl (by kernel_rfl) (by kernel_rfl))
        refine D_take 34 rfl (T_ixM (sz := 3) (q := i) rfl rfl rfl rfl rfl rfl hne (by omega)) ?_ rfl rfl (by kernel_rfl) (by kernel_rfl)
        refine D_take 35 rfl (T_fap rfl rfl rfl rfl rfl hne) ?_ rfl rfl (by kernel_rfl) (by kernel_rfl)
        refine D_take 36 rfl (T_ldr rfl rfl rfl (Srd.old h (fun k _ => noOwns k)) (by omega) hat2) ?_ rfl rfl (by kernel_rfl) (by kernel_rfl)
        refine D_take 37 rfl (T_scm (a := s) (b := u) rfl rfl hcm) ?_ rfl rfl (by kernel_rfl) (by kernel_rfl)
        refine D_take 38 rfl (pev_ok rfl) ?_ rfl rfl (by kernel_rfl) (by kernel_rfl)
        refine D_take 39 rfl (pev_ok rfl) ?_ rfl rfl (by kernel_rfl) (by kernel_rfl)
        refine D_done ?_ (by kernel_rfl)
        skip
        cases q
        · focus (refine S_true rfl rfl ?_; refine S_seq rfl ?_; refine S_region rfl rfl ?_; refine R_p rfl ?_ rfl rfl; refine R_nil ?_)
          refine hB _ _ _ _ _ rfl rfl fun w' hS => ⟨(), ?_, trivial, hS.sublist (List.nil_sublist _)⟩
          rw [hst (by simp)]
          rfl
        · focus (refine S_false rfl rfl ?_; refine S_skip rfl ?_; refine RS_blk ?_; refine S_region rfl rfl ?_; refine R_p rfl ?_ rfl rfl; refine R_take (T_addN rfl rfl (by unfold fits; omega)) ?_ rfl rfl; refine R_p rfl ?_ rfl rfl; refine R_nil ?_)
          exact hJ (i + 2) _ _ ⟨by omega, by omega, hnx (by simp)⟩ (Sub.cons rfl (Sub.cons rfl Sub.nil)) sub_st (by omega)
      · skip
        refine S_draw ([pt b4 73 (chc (s, false, t)), pt b 29 [.slice A L.length c]]) sub_st (by kernel_rfl) rfl (by kernel_rfl) (by kernel_rfl : _ = 40) ?_
        refine D_take 0 rfl (pev_ok rfl) ?_ rfl rfl (by kernel_rfl) (by kernel_rfl)
        refine D_take 1 rfl (T_decF rfl (by omega)) ?_ rfl rfl (by kernel_rfl) (by kernel_rfl)
        refine D_take 2 rfl (pev_ok rfl) ?_ rfl rfl (by kernel_rfl) (by kernel_rfl)
        refine D_take 3 rfl (pev_ok rfl) ?_ rfl rfl (by kernel_rfl) (by kernel_rfl)
        refine D_take 4 rfl (T_load rfl rfl rfl (by first | rfl | assumption)) ?_ rfl rfl (by kernel_rfl) (by kernel_rfl)
        refine D_one 5 rfl (E_rpathW (a := s) (r := true) rfl hpl hr) ?_ rfl rfl (by kernel_rfl)
        rintro _ _ ⟨rfl, rfl⟩
        refine Nx_same sub_st ?_
        refine D_take 6 rfl (T_not rfl) ?_ rfl rfl (by kernel_rfl) (by kernel_rfl)
        refine D_take 7 rfl (pev_ok rfl) ?_ rfl rfl (by kernel_rfl) (by kernel_rfl)
        refine D_take 8 rfl (pev_ok rfl) ?_ rfl rfl (by kernel_rfl) (by kernel_rfl)
        refine D_take 9 rfl (pev_ok rfl) ?_ rfl rfl (by kernel_rfl) (by kernel_rfl)
        refine D_take 10 rfl (T_load rfl rfl rfl (by first | rfl | assumption)) ?_ rfl rfl (by kernel_rfl) (by kernel_rfl)
        refine D_take 11 rfl (T_lens (a := t) rfl rfl rfl) ?_ rfl rfl (by kernel_rfl) (by kernel_rfl)
        refine D_take 12 rfl (T_decF rfl (by omega)) ?_ rfl rfl (by kernel_rfl) (by kernel_rfl)
        refine D_take 13 rfl (pev_ok rfl) ?_ rfl rfl (by kernel_rfl) (by kernel_rfl)
        refine D_take 14 rfl (pev_ok rfl) ?_ rfl rfl (by kernel_rfl) (by kernel_rfl)
        refine D_take 15 rfl (pev_ok rfl) ?_ rfl rfl (by kernel_rfl) (by kernel_rfl)
        refine D_take 16 rfl (T_load rfl rfl rfl (by first | rfl | assumption)) ?_ rfl rfl (by kernel_rfl) (by kernel_rfl)
        refine D_take 17 rfl (T_not rfl) ?_ rfl rfl (by kernel_rfl) (by kernel_rfl)
        refine D_take 18 rfl (pev_ok rfl) ?_ rfl rfl (by kernel_rfl) (by kernel_rfl)
        refine D_take 19 rfl (pev_ok rfl) ?_ rfl rfl (by kernel_rfl) (by kernel_rfl)
        refine D_take 20 rfl (T_load rfl rfl rfl (by first | rfl | assumption)) ?_ rfl rfl (by kernel_rfl) (by kernel_rfl)
        refine D_take 21 rfl (T_scm (a := t) (b := []) rfl rfl hn0) ?_ rfl rfl (by kernel_rfl) (by kernel_rfl)
        refine D_take 22 rfl (pev_ok rfl) ?_ rfl rfl (by kernel_rfl) (by kernel_rfl)
        refine D_take 23 rfl (pev_ok rfl) ?_ rfl rfl (by kernel_rfl) (by kernel_rfl)
        refine D_take 24 rfl (pev_ok rfl) ?_ rfl rfl (by kernel_rfl) (by kernel_rfl)
        refine D_skip 25 rfl ?_ rfl rfl (by kernel_rfl) (by kernel_rfl)
        refine D_skip 26 rfl ?_ rfl rfl (by kernel_rfl) (by kernel_rfl)
        refine D_skip 27 rfl ?_ rfl rfl (by kernel_rfl) (by kernel_rfl)
        refine D_skip 28 rfl ?_ rfl rfl (by kernel_rfl) (by kernel_rfl)
        refine D_skip 29 rfl ?_ rfl rfl (by kernel_rfl) (by kernel_rfl)
        refine D_skip 30 rfl ?_ rfl rfl (by kernel_rfl) (by kernel_rfl)
        refine D_skip 31 rfl ?_ rfl rfl (by kernel_rfl) (by kernel_rfl)
        refine D_skip 32 rfl ?_ rfl rfl (by kernel_rfl) (by kernel_rfl)
        refine D_skip 33 rfl ?_ rfl rfl (by kernel_rfl) (by kernel_rfl)
        refine D_skip 34 rfl ?_ rfl rfl (by kernel_rfl) (by kernel_rfl)
        refine D_skip 35 rfl ?_ rfl rfl (by kernel_rfl) (by kernel_rfl)
        refine D_skip 36 rfl ?_ rfl rfl (by kernel_rfl) (by kernel_rfl)
        refine D_skip 37 rfl ?_ rfl rfl (by kernel_rfl) (by kernel_rfl)
        refine D_skip 38 rfl ?_ rfl rfl (by kernel_rfl) (by kernel_rfl)
        refine D_take 39 rfl (pev_ok rfl) ?_ rfl rfl (by kernel_rfl) (by kernel_rfl)
        refine D_done ?_ (by kernel_rfl)
        skip
        focus (refine S_true rfl rfl ?_; refine S_seq rfl ?_; refine S_region rfl rfl ?_; refine R_p rfl ?_ rfl rfl; refine R_nil ?_)
        refine hB _ _ _ _ _ rfl rfl fun w' hS => ⟨(), ?_, trivial, hS.sublist (List.nil_sublist _)⟩
        rw [hbd he.symm]
        rfl
    · skip
      obtain rfl : e = false := he.symm
      have hnx := hnx hbc
      rcases Nat.eq_zero_or_pos j with hj0 | hj0
      · subst hj0
        refine S_draw ([pt b4 73 (chc (s, true, t)), pt b 29 [.slice A L.length c]]) sub_st (by kernel_rfl) rfl (by kernel_rfl) (by kernel_rfl : _ = 40) ?_
        refine D_take 0 rfl (pev_ok rfl) ?_ rfl rfl (by kernel_rfl) (by kernel_rfl)
        refine D_take 1 rfl (T_decF rfl (by omega)) ?_ rfl rfl (by kernel_rfl) (by kernel_rfl)
        refine D_take 2 rfl (T_decF rfl (by omega)) ?_ rfl rfl (by kernel_rfl) (by kernel_rfl)
        refine D_take 3 rfl (pev_ok rfl) ?_ rfl rfl (by kernel_rfl) (by kernel_rfl)
        refine D_take 4 rfl (T_load rfl rfl rfl (by first | rfl | assumption)) ?_ rfl rfl (by kernel_rfl) (by kernel_rfl)
        refine D_one 5 rfl (E_rpathW (a := s) (r := true) rfl hpl hr) ?_ rfl rfl (by kernel_rfl)
        rintro _ _ ⟨rfl, rfl⟩
        refine Nx_same sub_st ?_
        refine D_take 6 rfl (T_not rfl) ?_ rfl rfl (by kernel_rfl) (by kernel_rfl)
        refine D_take 7 rfl (T_decF rfl (by omega)) ?_ rfl rfl (by kernel_rfl) (by kernel_rfl)
        refine D_take 8 rfl (T_decF rfl (by omega)) ?_ rfl rfl (by kernel_rfl) (by kernel_rfl)
        refine D_take 9 rfl (pev_ok rfl) ?_ rfl rfl (by kernel_rfl) (by kernel_rfl)
        refine D_take 10 rfl (T_load rfl rfl rfl (by first | rfl | assumption)) ?_ rfl rfl (by kernel_rfl) (by kernel_rfl)
        refine D_take 11 rfl (T_lens (a := t) rfl rfl rfl) ?_ rfl rfl (by kernel_rfl) (by kernel_rfl)
        refine D_take 12 rfl (T_decF rfl (by omega)) ?_ rfl rfl (by kernel_rfl) (by kernel_rfl)
        refine D_take 13 rfl (T_decF rfl (by omega)) ?_ rfl rfl (by kernel_rfl) (by kernel_rfl)
        refine D_take 14 rfl (T_decF rfl (by omega)) ?_ rfl rfl (by kernel_rfl) (by kernel_rfl)
        refine D_take 15 rfl (pev_ok rfl) ?_ rfl rfl (by kernel_rfl) (by kernel_rfl)
        refine D_take 16 rfl (T_load rfl rfl rfl (by first | rfl | assumption)) ?_ rfl rfl (by kernel_rfl) (by kernel_rfl)
        refine D_take 17 rfl (T_not rfl) ?_ rfl rfl (by kernel_rfl) (by kernel_rfl)
        refine D_take 18 rfl (T_decF rfl (by omega)) ?_ rfl rfl (by kernel_rfl) (by kernel_rfl)
        refine D_skip 19 rfl ?_ rfl rfl (by kernel_rfl) (by kernel_rfl)
        refine D_skip 20 rfl ?_ rfl rfl (by kernel_rfl) (by kernel_rfl)
        refine D_skip 21 rfl ?_ rfl rfl (by kernel_rfl) (by kernel_rfl)
        refine D_take 22 rfl (T_decF rfl (by omega)) ?_ rfl rfl (by kernel_rfl) (by kernel_rfl)
        refine D_take 23 rfl (T_decF rfl (by omega)) ?_ rfl rfl (by kernel_rfl) (by kernel_rfl)
        refine D_take 24 rfl (T_decF rfl (by omega)) ?_ rfl rfl (by kernel_rfl) (by kernel_rfl)
        refine D_take 25 rfl (pev_ok rfl) ?_ rfl rfl (by kernel_rfl) (by kernel_rfl)
        refine D_take 26 rfl (T_decF rfl (by omega)) ?_ rfl rfl (by kernel_rfl) (by kernel_rfl)
        refine D_take 27 rfl (T_decF rfl (by omega)) ?_ rfl rfl (by kernel_rfl) (by kernel_rfl)
        refine D_skip 28 rfl ?_ rfl rfl (by kernel_rfl) (by kernel_rfl)
        refine D_skip 29 rfl ?_ rfl rfl (by kernel_rfl) (by kernel_rfl)
        refine D_skip 30 rfl ?_ rfl rfl (by kernel_rfl) (by kernel_rfl)
        refine D_skip 31 rfl ?_ rfl rfl (by kernel_rfl) (by kernel_rfl)
        refine D_skip 32 rfl ?_ rfl rfl (by kernel_rfl) (by kernel_rfl)
        refine D_skip 33 rfl ?_ rfl rfl (by kernel_rfl) (by kernel_rfl)
        refine D_skip 34 rfl ?_ rfl rfl (by kernel_rfl) (by kernel_rfl)
        refine D_skip 35 rfl ?_ rfl rfl (by kernel_rfl) (by kernel_rfl)
        refine D_skip 36 rfl ?_ rfl rfl (by kernel_rfl) (by kernel_rfl)
        refine D_skip 37 rfl ?_ rfl rfl (by kernel_rfl) (by kernel_rfl)
        refine D_take 38 rfl (T_decF rfl (by omega)) ?_ rfl rfl (by kernel_rfl) (by kernel_rfl)
        refine D_take 39 rfl (T_decF rfl (by omega)) ?_ rfl rfl (by kernel_rfl) (by kernel_rfl)
        refine D_done ?_ (by kernel_rfl)
        skip
        focus (refine S_false rfl rfl ?_; refine S_skip rfl ?_; refine RS_blk ?_; refine S_region rfl rfl ?_; refine R_p rfl ?_ rfl rfl; refine R_take (T_addN rfl rfl (by unfold fits; omega)) ?_ rfl rfl; refine R_p rfl ?_ rfl rfl; refine R_nil ?_)
        exact hJ 1 _ _ ⟨by omega, by omega, hnx rfl⟩ (Sub.cons rfl (Sub.cons rfl Sub.nil)) sub_st (by omega)
      obtain ⟨i, rfl⟩ : ∃ i, j = i + 1 := ⟨j - 1, by omega⟩
      have hat2 := fun e v => cellsL_at (f := chc) chc_len L default i (by omega) e v
      rw [Nat.add_sub_cancel, map_getD L i (by omega)] at hnx hst
      obtain ⟨⟨u, u2, u3⟩, hy⟩ : ∃ y, L.getD i default = y := ⟨_, rfl⟩
      rw [hy] at hat2 hnx hst
      have hat2 : (cellsL chc L)[i * 3 + 0]? = some (sv u) := hat2 0 _ rfl
      dsimp only at hnx hst
      have hcm : scmp .leq s u = some (!Op.bytesLess u s) := congrArg some (less_or s u)
      obtain ⟨q, hq⟩ : ∃ q, Op.bytesLess u s = q := ⟨_, rfl⟩
      rw [hq] at hnx hst hcm
      refine S_draw ([pt b4 73 (chc (s, true, t)), pt b 29 [.slice A L.length c]]) sub_st (by kernel_rfl) rfl (by kernel_rfl) (by kernel_rfl : _ = 40) ?_
      refine D_take 0 rfl (pev_ok rfl) ?_ rfl rfl (by kernel_rfl) (by kernel_rfl)
      refine D_take 1 rfl (T_decF rfl (by omega)) ?_ rfl rfl (by kernel_rfl) (by kernel_rfl)
      refine D_take 2 rfl (pev_ok rfl) ?_ rfl rfl (by kernel_rfl) (by kernel_rfl)
      refine D_take 3 rfl (pev_ok rfl) ?_ rfl rfl (by kernel_rfl) (by kernel_rfl)
      refine D_take 4 rfl (T_load rfl rfl rfl (by first | rfl | assumption)) ?_ rfl rfl (by kernel_rfl) (by kernel_rfl)
      refine D_one 5 rfl (E_rpathW (a := s) (r := true) rfl hpl hr) ?_ rfl rfl (by kernel_rfl)
      rintro _ _ ⟨rfl, rfl⟩
      refine Nx_same sub_st ?_
      refine D_take 6 rfl (T_not rfl) ?_ rfl rfl (by kernel_rfl) (by kernel_rfl)
      refine D_take 7 rfl (pev_ok rfl) ?_ rfl rfl (by kernel_rfl) (by kernel_rfl)
      refine D_take 8 rfl (pev_ok rfl) ?_ rfl rfl (by kernel_rfl) (by kernel_rfl)
      refine D_take 9 rfl (pev_ok rfl) ?_ rfl rfl (by kernel_rfl) (by kernel_rfl)
      refine D_take 10 rfl (T_load rfl rfl rfl (by first | rfl | assumption)) ?_ rfl rfl (by kernel_rfl) (by kernel_rfl)
      refine D_take 11 rfl (T_lens (a := t) rfl rfl rfl) ?_ rfl rfl (by kernel_rfl) (by kernel_rfl)
      refine D_take 12 rfl (T_decF rfl (by omega)) ?_ rfl rfl (by kernel_rfl) (by kernel_rfl)
      refine D_take 13 rfl (pev_ok rfl) ?_ rfl rfl (by kernel_rfl) (by kernel_rfl)
      refine D_take 14 rfl (pev_ok rfl) ?_ rfl rfl (by kernel_rfl) (by kernel_rfl)
      refine D_take 15 rfl (pev_ok rfl) ?_ rfl rfl (by kernel_rfl) (by kernel_rfl)
      refine D_take 16 rfl (T_load rfl rfl rfl (by first | rfl | assumption)) ?_ rfl rfl (by kernel_rfl) (by kernel_rfl)
      refine D_take 17 rfl (T_not rfl) ?_ rfl rfl (by kernel_rfl) (by kernel_rfl)
      refine D_take 18 rfl (pev_ok rfl) ?_ rfl rfl (by kernel_rfl) (by kernel_rfl)
      refine D_skip 19 rfl ?_ rfl rfl (by kernel_rfl) (by kernel_rfl)
      refine D_skip 20 rfl ?_ rfl rfl (by kernel_rfl) (by kernel_rfl)
      refine D_skip 21 rfl ?_ rfl rfl (by kernel_rfl) (by kernel_rfl)
      refine D_take 22 rfl (pev_ok rfl) ?_ rfl rfl (by kernel_rfl) (by kernel_rfl)
      refine D_take 23 rfl (pev_ok rfl) ?_ rfl rfl (by kernel_rfl) (by kernel_rfl)
      refine D_take 24 rfl (pev_ok rfl) ?_ rfl rfl (by kernel_rfl) (by kernel_rfl)
      refine D_take 25 rfl (pev_ok rfl) ?_ rfl rfl (by kernel_rfl) (by kernel_rfl)
      refine D_take 26 rfl (T_decT rfl (by omega)) ?_ rfl rfl (by kernel_rfl) (by kernel_rfl)
      refine D_take 27 rfl (pev_ok rfl) ?_ rfl rfl (by kernel_rfl) (by kernel_rfl)
      refine D_take 28 rfl (pev_ok rfl) ?_ rfl rfl (by kernel_rfl) (by kernel_rfl)
      refine D_take 29 rfl (T_load rfl rfl rfl (by first | rfl | assumption)) ?_ rfl rfl (by kernel_rfl) (by kernel_rfl)
      refine D_take 30 rfl (pev_ok rfl) ?_ rfl rfl (by kernel_rfl) (by kernel_rfl)
      refine D_take 31 rfl (T_load rfl rfl rfl (by first | rfl | assumption)) ?_ rfl rfl (by kernel_rfl) (by kernel_rfl)
      refine D_take 32 rfl (pev_ok rfl) ?_ rfl rfl (by kernel_rfl) (by kernel_rfl)
      (refine D_take 33 rfl (T_subN rfl rfl (by omega) (by unfold fits; omega)) ?_ rfl rfl (by kernel_rfl) (by kernel_rfl))
      refine D_take 34 rfl (T_ixM (sz := 3) (q := i) rfl rfl rfl rfl rfl rfl hne (by omega)) ?_ rfl rfl (by kernel_rfl) (by kernel_rfl)
      refine D_take 35 rfl (T_fap rfl rfl rfl rfl rfl hne) ?_ rfl rfl (by kernel_rfl) (by kernel_rfl)
      refine D_take 36 rfl (T_ldr rfl rfl rfl (Srd.old h (fun k _ => noOwns k)) (by omega) hat2) ?_ rfl rfl (by kernel_rfl) (by kernel_rfl)
      refine D_take 37 rfl (T_scm (a := s) (b := u) rfl rfl hcm) ?_ rfl rfl (by kernel_rfl) (by kernel_rfl)
      refine D_take 38 rfl (pev_ok rfl) ?_ rfl rfl (by kernel_rfl) (by kernel_rfl)
      refine D_take 39 rfl (pev_ok rfl) ?_ rfl rfl (by kernel_rfl) (by kernel_rfl)
      refine D_done ?_ (by kernel_rfl)
      skip
      cases q
      · focus (refine S_true rfl rfl ?_; refine S_seq rfl ?_; refine S_region rfl rfl ?_; refine R_p rfl ?_ rfl rfl; refine R_nil ?_)
        refine hB _ _ _ _ _ rfl rfl fun w' hS => ⟨(), ?_, trivial, hS.sublist (List.nil_sublist _)⟩
        rw [hst (by simp)]
        rfl
      · focus (refine S_false rfl rfl ?_; refine S_skip rfl ?_; refine RS_blk ?_; refine S_region rfl rfl ?_; refine R_p rfl ?_ rfl rfl; refine R_take (T_addN rfl rfl (by unfold fits; omega)) ?_ rfl rfl; refine R_p rfl ?_ rfl rfl; refine R_nil ?_)
        exact hJ (i + 2) _ _ ⟨by omega, by omega, hnx (by simp)⟩ (Sub.cons rfl (Sub.cons rfl Sub.nil)) sub_st (by omega)
  have hjn : j = L.length := by omega
  subst hjn
  focus (refine S_seq rfl ?_; refine S_seq rfl ?_; refine S_region rfl rfl ?_; refine R_p rfl ?_ rfl rfl; refine R_p rfl ?_ rfl rfl; refine R_take (T_load rfl rfl rfl (by first | rfl | assumption)) ?_ rfl rfl; refine R_p rfl ?_ rfl rfl; refine R_take (T_decF rfl (by omega)) ?_ rfl rfl; refine R_nil ?_; refine S_false rfl rfl ?_; refine S_exit rfl rfl ?_; refine S_seq rfl ?_; refine S_region rfl rfl ?_; refine R_p rfl ?_ rfl rfl; refine R_nil ?_)
  refine hB _ _ _ _ _ rfl rfl fun w' hS => ⟨(), ?_, trivial, hS.sublist (List.nil_sublist _)⟩
  rw [goodC_end hok hj32]
  rfl
end Go.Proofs.Ytghfjfgpiomdhaa

namespace Go.Proofs.Ytghfjfgpiomdhaa
open Go.RowKit
open Asn (pt row rb)
set_option linter.unusedVariables false
set_option linter.unusedSimpArgs false
--@use N

/-- append, elements of any size -/
theorem E_appS {P : Program} {n : Nat} {w0 : World} {M : Nat → Prop} {T : Slots} {H Hr : List Asn} {dd : Option Tmp} {tt : TypeId} {pos : String} {af : Array Edge} {g : Option (Nat × Bool)} [HasTab P] {sz : Nat} {x y : Operand} {s e : TypeId} {A A2 : Option Addr} {m c m2 c2 : Nat} {xs news : List Value} {i ei : Ti} (hx : oget T x = some (.slice A m c)) (hy : oget T y = some (.slice A2 m2 c2)) (hs : ty P s = some i) (hi : i.desc = .slice e) (he : ty P e = some ei) (hsz : ei.size = sz) (hz : ei.zero.cells.size = sz) (hz0 : 0 < sz)
    [hr : HRow H A m c e sz xs Hr] (hsrc : Srd w0 M H sz A2 m2 news) (h1 : ∀ u ∈ news, u.oneCell' = true) (hb : (m + m2) * ei.bytes ≤ 140737488355328) (hm : m + m2 ≤ maxLen) :
    Ef P n w0 M T H ⟨dd, .call ⟨.builtin .append, #[x, y], #[s, s]⟩, tt, pos, af, g⟩ (fun v H' => ∃ A' c', v = .slice A' (m + m2) c' ∧ H' = row e sz A' (m + m2) c' (xs ++ news) :: Hr) := by
  subst hsz
  exact E_app hx hy hs hi he hz hz0 hsrc h1 hb hm
theorem insM_shift {α} (xs ys vs : List α) (i s m : Nat) (hx : xs.length = m) (hv : vs.length = s) (hi : i + s ≤ m + ys.length) (hi2 : i ≤ m) (R : List α) :
    ((((xs ++ ys).take (i + s) ++ xs.drop i ++ R).take i ++ vs ++ ((xs ++ ys).take (i + s) ++ xs.drop i ++ R).drop (i + s))).take (m + s) = xs.take i ++ vs ++ xs.drop i := by
  have h1 : ((xs ++ ys).take (i + s)).length = i + s := by simp; omega
  have h2 : ((xs ++ ys).take (i + s) ++ xs.drop i ++ R).take i = xs.take i := by
    rw [List.append_assoc, List.take_append_of_le_length (by omega), List.take_take, List.take_append_of_le_length (by omega)]
    congr 1; omega
  have h3 : ((xs ++ ys).take (i + s) ++ xs.drop i ++ R).drop (i + s) = xs.drop i ++ R := by
    rw [List.append_assoc, List.drop_left' h1]
  rw [h2, h3]
  have h4 : xs.take i ++ vs ++ (xs.drop i ++ R) = (xs.take i ++ vs ++ xs.drop i) ++ R := by simp
  rw [h4, List.take_left' (by simp; omega)]
theorem insM_grow {α} (xs zs ys vs : List α) (i s m : Nat) (hx : xs.length = m) (hv : vs.length = s) (hi : i ≤ m) (R Q : List α) :
    (((xs.take i ++ zs ++ ys).take i ++ vs ++ R).take (i + s) ++ xs.drop i ++ Q).take (m + s) = xs.take i ++ vs ++ xs.drop i := by
  have h2 : ((xs.take i ++ zs ++ ys)).take i = xs.take i := by
    rw [List.append_assoc, List.take_left' (by simp; omega)]
  rw [h2, List.take_left' (l₁ := xs.take i ++ vs) (by simp; omega)]
  have h4 : xs.take i ++ vs ++ xs.drop i ++ Q = (xs.take i ++ vs ++ xs.drop i) ++ Q := by simp
  rw [h4, List.take_left' (by simp; omega)]
set_option maxRecDepth 100000 in
set_option maxHeartbeats 4000000 in
theorem clone_any (w : World) (A : Option Addr) (n c : Nat) (xs : List Value) (h : Rd w All 2 A n xs) (h1 : ∀ v ∈ xs, v.oneCell' = true) (hn : n ≤ 1000) :
    Gives Try.prog 63 [.slice A n c] [] w (X := Option Addr × Nat) (fun x => .slice x.1 n x.2) (fun _ => True) (fun x => [row 70 2 x.1 n x.2 xs]) := by
  refine gives_S Try.func63 rfl Try.ntmps63 Try.results63 (by simp) (St.enter w) (fun B hB => ?_)
  cases hA : A with
  | none =>
    subst hA
    have hn0 : n = 0 := by
      rcases Nat.eq_zero_or_pos n with h0 | h0
      · exact h0
      · obtain ⟨ad, e, _⟩ := h.2 h0
        cases e
    subst hn0
    obtain rfl : xs = [] := List.eq_nil_of_length_eq_zero (by simpa using h.1)
    focus (refine S_seq rfl ?_; refine S_region rfl rfl ?_; refine R_p rfl ?_ rfl rfl; refine R_nil ?_; refine S_seq rfl ?_; refine S_seq rfl ?_; refine S_region rfl rfl ?_; refine R_p rfl ?_ rfl rfl; refine R_take (T_eqnil rfl rfl rfl rfl) ?_ rfl rfl; refine R_nil ?_; refine S_true rfl rfl ?_; refine S_seq rfl ?_; refine S_region rfl rfl ?_; refine R_p rfl ?_ rfl rfl; refine R_nil ?_)
    all_goals (try (exfalso; simp_all; done))
    refine hB _ _ _ _ _ rfl rfl fun w' hS => ⟨(none, 0), rfl, trivial, (hS.sublist (List.nil_sublist _)).nilrow _ _⟩
  | some ad =>
    subst hA
    focus (refine S_seq rfl ?_; refine S_region rfl rfl ?_; refine R_p rfl ?_ rfl rfl; refine R_nil ?_; refine S_seq rfl ?_; refine S_seq rfl ?_; refine S_region rfl rfl ?_; refine R_p rfl ?_ rfl rfl; refine R_take (T_eqnil rfl rfl rfl rfl) ?_ rfl rfl; refine R_nil ?_; refine S_false rfl rfl ?_; refine S_skip rfl ?_; refine S_seq rfl ?_; refine S_region rfl rfl ?_; (refine R_eff (E_litS (vs := []) (size := 2) (ds := []) rfl rfl rfl rfl rfl rfl (by simp) rfl (by omega)) ?_ rfl rfl; rintro _ _ ⟨bl, rfl, rfl⟩); refine R_p rfl ?_ rfl rfl; (refine R_eff (E_apple rfl rfl rfl rfl rfl rfl rfl (by decide) .here (Srd.old h (fun k _ => noOwns k)) h1 (by show n * 32 ≤ _; omega) (by unfold maxLen; omega)) ?_ rfl rfl; rintro _ _ ⟨A', c', rfl, rfl⟩); refine R_p rfl ?_ rfl rfl; refine R_nil ?_)
    all_goals (try (exfalso; simp_all; done))
    refine hB _ _ _ _ _ rfl rfl fun w' hS => ⟨(A', c'), rfl, trivial, hS⟩
theorem one_drop {xs : List Value} (h1 : ∀ v ∈ xs, v.oneCell' = true) (i : Nat) : ∀ v ∈ xs.drop i, v.oneCell' = true := fun v hv => h1 v (List.mem_of_mem_drop hv)
theorem part_at (xs ys : List Value) (i : Nat) : ∀ j v, (xs.drop i)[j]? = some v → (xs ++ ys)[0 + i + j]? = some v := fun j v hj => by
  rw [List.getElem?_drop] at hj
  have hl := (List.getElem?_eq_some_iff.1 hj).1
  rw [Nat.zero_add, List.getElem?_append_left hl]
  exact hj
set_option maxRecDepth 100000 in
set_option maxHeartbeats 4000000 in
theorem insert_any (w : World) (A : Option Addr) (m c vb i : Nat) (xs vs : List Value) (hi : i ≤ m) (hm : m ≤ 1000) (h1 : ∀ v ∈ xs, v.oneCell' = true) (hv1 : ∀ v ∈ vs, v.oneCell' = true) (hvl : vs.length = 2)
    (hS : St w (owns [row 70 2 A m c xs, pt vb 70 vs]) [row 70 2 A m c xs, pt vb 70 vs] w) :
    Gives Try.prog 68 [.slice A m c, .int .i64 (i : Int), .slice (some ⟨vb, 0, none⟩) 1 1] [row 70 2 A m c xs, pt vb 70 vs] w (X := Option Addr × Nat) (fun x => .slice x.1 (m + 1) x.2) (fun _ => True) (fun x => [row 70 2 x.1 (m + 1) x.2 (xs.take (i * 2) ++ vs ++ xs.drop (i * 2))]) := by
  refine gives_S Try.func68 rfl Try.ntmps68 Try.results68 (by simp) hS (fun B hB => ?_)
  refine RS_row A m c fun hmc hcm hne hxl => ?_
  rcases Nat.lt_or_ge i m with him | him
  · rcases Nat.lt_or_ge m c with hroom | hroom
    · refine RS_open A m c (hne (by omega)) fun gb ys hA hyl _ _ _ => ?_
      subst hA
      refine RS_fact (p := vb ≠ gb) (fun w hS => fun e => ?_) fun hvg => ?_
      · subst e
        exact (List.pairwise_cons.1 hS.apart).1 (pt vb 70 vs) (by simp) vb rfl rfl
      focus (refine S_seq rfl ?_; refine S_region rfl rfl ?_; refine R_p rfl ?_ rfl rfl; refine R_nil ?_; refine S_seq rfl ?_; refine S_region rfl rfl ?_; refine R_p rfl ?_ rfl rfl; refine R_p rfl ?_ rfl rfl; refine R_take (T_sllg (sz := 2) rfl rfl rfl rfl rfl rfl (by omega) (by omega) (by omega)) ?_ rfl rfl; refine R_nil ?_; refine S_seq rfl ?_; refine S_region rfl rfl ?_; refine R_p rfl ?_ rfl rfl; refine R_p rfl ?_ rfl rfl; refine R_p rfl ?_ rfl rfl; refine R_nil ?_; refine S_seq rfl ?_; refine S_seq rfl ?_; refine S_region rfl rfl ?_; refine R_p rfl ?_ rfl rfl; refine R_take (T_decF rfl (by omega)) ?_ rfl rfl; refine R_nil ?_; refine S_false rfl rfl ?_; refine S_skip rfl ?_; refine S_seq rfl ?_; refine S_region rfl rfl ?_; refine R_p rfl ?_ rfl rfl; refine R_p rfl ?_ rfl rfl; refine R_p rfl ?_ rfl rfl; refine R_nil ?_; refine S_seq rfl ?_; refine S_seq rfl ?_; refine S_region rfl rfl ?_; refine R_p rfl ?_ rfl rfl; refine R_p rfl ?_ rfl rfl; refine R_take (T_decF rfl (by omega)) ?_ rfl rfl; refine R_nil ?_; refine S_false rfl rfl ?_; refine S_skip rfl ?_; refine S_seq rfl ?_; refine S_seq rfl ?_; refine S_region rfl rfl ?_; refine R_p rfl ?_ rfl rfl; refine R_p rfl ?_ rfl rfl; refine R_take (T_addN rfl rfl (by unfold fits; omega)) ?_ rfl rfl; refine R_p rfl ?_ rfl rfl; refine R_take (T_cap rfl rfl rfl) ?_ rfl rfl; refine R_take (T_decF rfl (by omega)) ?_ rfl rfl; refine R_nil ?_; refine S_false rfl rfl ?_; refine S_skip rfl ?_; refine S_seq rfl ?_; refine S_region rfl rfl ?_; refine R_p rfl ?_ rfl rfl; refine R_p rfl ?_ rfl rfl; refine R_p rfl ?_ rfl rfl; refine R_take (T_addN rfl rfl (by unfold fits; omega)) ?_ rfl rfl; refine R_take (T_slhN rfl rfl rfl rfl rfl (by omega)) ?_ rfl rfl; refine R_p rfl ?_ rfl rfl; refine R_nil ?_; refine S_seq rfl ?_; refine S_seq rfl ?_; refine S_region rfl rfl ?_; refine R_p rfl ?_ rfl rfl; refine R_p rfl ?_ rfl rfl; refine R_p rfl ?_ rfl rfl; refine R_p rfl ?_ rfl rfl; refine R_take (T_addN rfl rfl (by unfold fits; omega)) ?_ rfl rfl; refine R_take (T_sllg (sz := 2) rfl rfl rfl rfl rfl rfl (by omega) (by omega) (by omega)) ?_ rfl rfl; (refine R_eff (E_over (f := 79) (fn := Try.f79) (s := 22) (b := 4) Try.func79 (by kernel_rfl) (by kernel_rfl) (by kernel_rfl) (by kernel_rfl) rfl rfl rfl rfl rfl inferInstance inferInstance hvg (by rw [List.length_append]; omega)) ?_ rfl rfl; rintro _ _ ⟨rfl, rfl⟩); refine R_take (T_not rfl) ?_ rfl rfl; refine R_nil ?_; refine S_true rfl rfl ?_; refine S_seq rfl ?_)
      refine S_draw ([]) sub_st (by kernel_rfl) rfl (by kernel_rfl) (by kernel_rfl : _ = 9) ?_
      refine D_take 0 rfl (pev_ok rfl) ?_ rfl rfl (by kernel_rfl) (by kernel_rfl)
      refine D_take 1 rfl (pev_ok rfl) ?_ rfl rfl (by kernel_rfl) (by kernel_rfl)
      refine D_take 2 rfl (pev_ok rfl) ?_ rfl rfl (by kernel_rfl) (by kernel_rfl)
      (refine D_take 3 rfl (T_addN rfl rfl (by unfold fits; omega)) ?_ rfl rfl (by kernel_rfl) (by kernel_rfl))
      refine D_take 4 rfl (T_sllg (sz := 2) rfl rfl rfl rfl rfl rfl (by omega) (by omega) (by omega)) ?_ rfl rfl (by kernel_rfl) (by kernel_rfl)
      refine D_take 5 rfl (pev_ok rfl) ?_ rfl rfl (by kernel_rfl) (by kernel_rfl)
      refine D_take 6 rfl (pev_ok rfl) ?_ rfl rfl (by kernel_rfl) (by kernel_rfl)
      refine D_take 7 rfl (T_sllg (sz := 2) rfl rfl rfl rfl rfl rfl (by omega) (by omega) (by omega)) ?_ rfl rfl (by kernel_rfl) (by kernel_rfl)
      refine D_one 8 rfl (E_copyn (q := m - i) (cs := xs.drop (i * 2)) rfl rfl rfl rfl rfl (Srd.pt (by show _ = (m - i) * 2; rw [List.length_drop]; omega) (part_at xs ys (i * 2))) (by simp only [Nat.min_def]; split <;> omega) (by rw [List.length_append, List.length_drop]; omega) (one_drop h1 (i * 2)) rfl) ?_ rfl rfl (by kernel_rfl)
      rintro _ _ ⟨rfl, rfl⟩
      refine Nx_same sub_st ?_
      refine D_done ?_ (by kernel_rfl)
      skip
      focus (refine S_seq rfl ?_; refine S_region rfl rfl ?_; refine R_p rfl ?_ rfl rfl; refine R_p rfl ?_ rfl rfl; refine R_take (T_sllg (sz := 2) rfl rfl rfl rfl rfl rfl (by omega) (by omega) (by omega)) ?_ rfl rfl; refine R_p rfl ?_ rfl rfl; (refine R_eff (E_copyn (q := 1) (cs := vs) rfl rfl rfl rfl rfl (Srd.pt (g := vb) hvl (fun j u hj => by rw [Nat.zero_add]; exact hj)) (by simp only [Nat.min_def]; split <;> omega) (by simp; omega) hv1 rfl) ?_ rfl rfl; rintro _ _ ⟨rfl, rfl⟩); refine R_nil ?_; refine S_seq rfl ?_; refine S_region rfl rfl ?_; refine R_p rfl ?_ rfl rfl; refine R_p rfl ?_ rfl rfl; refine R_nil ?_)
      refine hB _ _ _ _ _ rfl rfl fun w' hS => ⟨(some ⟨gb, 0, none⟩, c), rfl, trivial, ?_⟩
      refine (hS.close (m := m + 1) (c := c) (size := 2) (gb := gb) (e := 70) (xs := xs.take (i * 2) ++ vs ++ xs.drop (i * 2)) (by omega) hcm ?_ ?_).sublist (by simp)
      · simp only [List.length_append, List.length_take, List.length_drop, List.length_cons, List.length_nil]; omega
      simp only [Nat.zero_add, Nat.add_mul, Nat.one_mul, hvl, ← Nat.add_assoc]
      exact insM_shift xs ys vs (i * 2) 2 (m * 2) hxl hvl (by omega) (by omega) _
    · skip
      focus (refine S_seq rfl ?_; refine S_region rfl rfl ?_; refine R_p rfl ?_ rfl rfl; refine R_nil ?_; refine S_seq rfl ?_; refine S_region rfl rfl ?_; refine R_p rfl ?_ rfl rfl; refine R_p rfl ?_ rfl rfl; refine R_take (T_slN rfl rfl rfl rfl rfl rfl (by omega) (by omega)) ?_ rfl rfl; refine R_nil ?_; refine S_seq rfl ?_; refine S_region rfl rfl ?_; refine R_p rfl ?_ rfl rfl; refine R_p rfl ?_ rfl rfl; refine R_p rfl ?_ rfl rfl; refine R_nil ?_; refine S_seq rfl ?_; refine S_seq rfl ?_; refine S_region rfl rfl ?_; refine R_p rfl ?_ rfl rfl; refine R_take (T_decF rfl (by omega)) ?_ rfl rfl; refine R_nil ?_; refine S_false rfl rfl ?_; refine S_skip rfl ?_; refine S_seq rfl ?_; refine S_region rfl rfl ?_; refine R_p rfl ?_ rfl rfl; refine R_p rfl ?_ rfl rfl; refine R_p rfl ?_ rfl rfl; refine R_nil ?_; refine S_seq rfl ?_; refine S_seq rfl ?_; refine S_region rfl rfl ?_; refine R_p rfl ?_ rfl rfl; refine R_p rfl ?_ rfl rfl; refine R_take (T_decF rfl (by omega)) ?_ rfl rfl; refine R_nil ?_; refine S_false rfl rfl ?_; refine S_skip rfl ?_; refine S_seq rfl ?_; refine S_seq rfl ?_; refine S_region rfl rfl ?_; refine R_p rfl ?_ rfl rfl; refine R_p rfl ?_ rfl rfl; refine R_take (T_addN rfl rfl (by unfold fits; omega)) ?_ rfl rfl; refine R_p rfl ?_ rfl rfl; refine R_take (T_cap rfl rfl rfl) ?_ rfl rfl; refine R_take (T_decT rfl (by omega)) ?_ rfl rfl; refine R_nil ?_; refine S_true rfl rfl ?_; refine S_seq rfl ?_; refine S_region rfl rfl ?_; refine R_p rfl ?_ rfl rfl; refine R_p rfl ?_ rfl rfl; refine R_take (T_slhN rfl rfl rfl rfl rfl (by omega)) ?_ rfl rfl; refine R_p rfl ?_ rfl rfl; refine R_p rfl ?_ rfl rfl; refine R_take (T_addN rfl rfl (by unfold fits; omega)) ?_ rfl rfl; refine R_p rfl ?_ rfl rfl; refine R_take (T_subN rfl rfl (by omega) (by unfold fits; omega)) ?_ rfl rfl; (refine R_eff (E_appz (sz := 2) (q := m + 1 - i) rfl rfl rfl rfl rfl rfl rfl rfl rfl (by decide) ((Srd.row (n := m) (c := c)).head (by omega)) (by omega) (by omega) (by show (i + (m + 1 - i)) * 32 ≤ _; omega) (by unfold maxLen; omega)) ?_ rfl rfl; rintro _ _ ⟨g2, cc2, zs, ys, rfl, hzs, hyl, hmc2, hcm2, rfl⟩); refine R_p rfl ?_ rfl rfl; refine R_nil ?_; refine S_seq rfl ?_; refine S_region rfl rfl ?_; refine R_p rfl ?_ rfl rfl; refine R_p rfl ?_ rfl rfl; refine R_take (T_sllg (sz := 2) rfl rfl rfl rfl rfl rfl (by omega) (by omega) (by omega)) ?_ rfl rfl; refine R_p rfl ?_ rfl rfl; (refine R_eff (E_copyn (q := 1) (cs := vs) rfl rfl rfl rfl rfl (Srd.pt (g := vb) hvl (fun j u hj => by rw [Nat.zero_add]; exact hj)) (by simp only [Nat.min_def]; split <;> omega) (by simp; omega) hv1 rfl) ?_ rfl rfl; rintro _ _ ⟨rfl, rfl⟩); refine R_nil ?_; refine S_seq rfl ?_)
      refine S_draw ([]) sub_st (by kernel_rfl) rfl (by kernel_rfl) (by kernel_rfl : _ = 9) ?_
      refine D_take 0 rfl (pev_ok rfl) ?_ rfl rfl (by kernel_rfl) (by kernel_rfl)
      refine D_take 1 rfl (pev_ok rfl) ?_ rfl rfl (by kernel_rfl) (by kernel_rfl)
      refine D_take 2 rfl (pev_ok rfl) ?_ rfl rfl (by kernel_rfl) (by kernel_rfl)
      (refine D_take 3 rfl (T_addN rfl rfl (by unfold fits; omega)) ?_ rfl rfl (by kernel_rfl) (by kernel_rfl))
      refine D_take 4 rfl (T_sllg (sz := 2) rfl rfl rfl rfl rfl rfl (by omega) (by omega) (by omega)) ?_ rfl rfl (by kernel_rfl) (by kernel_rfl)
      refine D_take 5 rfl (pev_ok rfl) ?_ rfl rfl (by kernel_rfl) (by kernel_rfl)
      refine D_take 6 rfl (pev_ok rfl) ?_ rfl rfl (by kernel_rfl) (by kernel_rfl)
      refine D_take 7 rfl (T_slN rfl rfl rfl rfl rfl rfl (by omega) (by omega)) ?_ rfl rfl (by kernel_rfl) (by kernel_rfl)
      refine D_one 8 rfl (E_copyn (q := m - i) (cs := xs.drop (i * 2)) rfl rfl rfl rfl rfl ((Srd.row (n := m) (c := c)).cutP (by omega) (by omega)) (by simp only [Nat.min_def]; split <;> omega) (by simp; omega) (one_drop h1 (i * 2)) rfl) ?_ rfl rfl (by kernel_rfl)
      rintro _ _ ⟨rfl, rfl⟩
      refine Nx_same sub_st ?_
      refine D_done ?_ (by kernel_rfl)
      skip
      focus (refine S_seq rfl ?_; refine S_region rfl rfl ?_; refine R_p rfl ?_ rfl rfl; refine R_p rfl ?_ rfl rfl; refine R_nil ?_)
      refine hB _ _ _ _ _ rfl rfl fun w' hS => ⟨(some ⟨g2, 0, none⟩, cc2), by simp only [retv]; congr 1; omega, trivial, ?_⟩
      refine (hS.close (m := m + 1) (c := cc2) (size := 2) (gb := g2) (e := 70) (xs := xs.take (i * 2) ++ vs ++ xs.drop (i * 2)) (by omega) hcm2 ?_ ?_).sublist (by simp)
      · simp only [List.length_append, List.length_take, List.length_drop, List.length_cons, List.length_nil]; omega
      simp only [Nat.zero_add, Nat.add_mul, Nat.one_mul, hvl, ← Nat.add_assoc]
      exact insM_grow xs zs ys vs (i * 2) 2 (m * 2) hxl hvl (by omega) _ _
  · obtain rfl : i = m := by omega
    focus (refine S_seq rfl ?_; refine S_region rfl rfl ?_; refine R_p rfl ?_ rfl rfl; refine R_nil ?_; refine S_seq rfl ?_; refine S_region rfl rfl ?_; refine R_p rfl ?_ rfl rfl; refine R_p rfl ?_ rfl rfl; refine R_take (T_slN rfl rfl rfl rfl rfl rfl (by omega) (by omega)) ?_ rfl rfl; refine R_nil ?_; refine S_seq rfl ?_; refine S_region rfl rfl ?_; refine R_p rfl ?_ rfl rfl; refine R_p rfl ?_ rfl rfl; refine R_p rfl ?_ rfl rfl; refine R_nil ?_; refine S_seq rfl ?_; refine S_seq rfl ?_; refine S_region rfl rfl ?_; refine R_p rfl ?_ rfl rfl; refine R_take (T_decF rfl (by omega)) ?_ rfl rfl; refine R_nil ?_; refine S_false rfl rfl ?_; refine S_skip rfl ?_; refine S_seq rfl ?_; refine S_region rfl rfl ?_; refine R_p rfl ?_ rfl rfl; refine R_p rfl ?_ rfl rfl; refine R_p rfl ?_ rfl rfl; refine R_nil ?_; refine S_seq rfl ?_; refine S_seq rfl ?_; refine S_region rfl rfl ?_; refine R_p rfl ?_ rfl rfl; refine R_p rfl ?_ rfl rfl; refine R_take (T_decT rfl (by omega)) ?_ rfl rfl; refine R_nil ?_; refine S_true rfl rfl ?_; refine S_seq rfl ?_; refine S_region rfl rfl ?_; refine R_p rfl ?_ rfl rfl; refine R_p rfl ?_ rfl rfl; (refine R_eff (E_appS (sz := 2) rfl rfl rfl rfl rfl rfl rfl (by decide) (Srd.pt (n := 1) (g := vb) (ds := vs) hvl (fun j u hj => by rw [Nat.zero_add]; exact hj)) hv1 (by show (i + 1) * 32 ≤ _; omega) (by unfold maxLen; omega)) ?_ rfl rfl; rintro _ _ ⟨A2, cc2, rfl, rfl⟩); refine R_p rfl ?_ rfl rfl; refine R_nil ?_)
    refine hB _ _ _ _ _ rfl rfl fun w' hS => ⟨(A2, cc2), rfl, trivial, ?_⟩
    rw [List.take_of_length_le (by omega), List.drop_eq_nil_of_le (by omega), List.append_nil]
    exact hS.sublist (by simp)
set_option maxRecDepth 100000 in
set_option maxHeartbeats 4000000 in
theorem delete_any (w : World) (A : Option Addr) (m c i j : Nat) (xs : List Value) (hi : i < j) (hj : j ≤ m) (hm : m ≤ 1000) (h1 : ∀ v ∈ xs, v.oneCell' = true)
    (hS : St w (owns [row 70 2 A m c xs]) [row 70 2 A m c xs] w) :
    Gives Try.prog 67 [.slice A m c, .int .i64 (i : Int), .int .i64 (j : Int)] [row 70 2 A m c xs] w (X := Option Addr × Nat) (fun x => .slice x.1 (i + (m - j)) x.2) (fun _ => True) (fun x => [row 70 2 x.1 (i + (m - j)) x.2 (xs.take (i * 2) ++ xs.drop (j * 2))]) := by
  refine gives_S Try.func67 rfl Try.ntmps67 Try.results67 (by simp) hS (fun B hB => ?_)
  refine RS_row A m c fun hmc hcm hne hxl => ?_
  refine RS_open A m c (hne (by omega)) fun gb ys hA hyl _ _ _ => ?_
  subst hA
  focus (refine S_seq rfl ?_; refine S_region rfl rfl ?_; refine R_p rfl ?_ rfl rfl; refine R_nil ?_; refine S_seq rfl ?_; refine S_region rfl rfl ?_; refine R_p rfl ?_ rfl rfl; refine R_p rfl ?_ rfl rfl; refine R_p rfl ?_ rfl rfl; refine R_p rfl ?_ rfl rfl; refine R_p rfl ?_ rfl rfl; refine R_take (T_slbm rfl rfl rfl rfl rfl rfl rfl rfl (by omega) (by omega) (by omega)) ?_ rfl rfl; refine R_nil ?_; refine S_seq rfl ?_; refine S_seq rfl ?_; refine S_region rfl rfl ?_; refine R_p rfl ?_ rfl rfl; refine R_p rfl ?_ rfl rfl; refine R_take (T_decF rfl (by omega)) ?_ rfl rfl; refine R_nil ?_; refine S_false rfl rfl ?_; refine S_skip rfl ?_; refine S_seq rfl ?_; refine S_region rfl rfl ?_; refine R_p rfl ?_ rfl rfl; refine R_p rfl ?_ rfl rfl; refine R_p rfl ?_ rfl rfl; refine R_nil ?_; refine S_seq rfl ?_)
  refine S_draw ([]) sub_st (by kernel_rfl) rfl (by kernel_rfl) (by kernel_rfl : _ = 8) ?_
  refine D_take 0 rfl (pev_ok rfl) ?_ rfl rfl (by kernel_rfl) (by kernel_rfl)
  refine D_take 1 rfl (pev_ok rfl) ?_ rfl rfl (by kernel_rfl) (by kernel_rfl)
  refine D_take 2 rfl (T_slhN rfl rfl rfl rfl rfl (by omega)) ?_ rfl rfl (by kernel_rfl) (by kernel_rfl)
  refine D_take 3 rfl (pev_ok rfl) ?_ rfl rfl (by kernel_rfl) (by kernel_rfl)
  refine D_take 4 rfl (pev_ok rfl) ?_ rfl rfl (by kernel_rfl) (by kernel_rfl)
  refine D_take 5 rfl (T_slN (sz := 2) rfl rfl rfl rfl rfl rfl (by omega) (by omega)) ?_ rfl rfl (by kernel_rfl) (by kernel_rfl)
  refine D_one 6 rfl (E_appin (sz := 2) (m2 := m - j) (news := xs.drop (j * 2)) rfl rfl rfl rfl rfl rfl (by first | exact ((Srd.pt (g := gb) (off := 0) (n := m) (ds := xs) hxl (fun q v hq => by rw [Nat.zero_add, List.getElem?_append_left (List.getElem?_eq_some_iff.1 hq).1]; exact hq)).cutP (by omega) (by omega))) (one_drop h1 (j * 2)) (by omega) (by simp only [List.length_append, List.length_take, List.length_drop]; omega) rfl) ?_ rfl rfl (by kernel_rfl)
  rintro _ _ ⟨rfl, rfl⟩
  refine Nx_same sub_st ?_
  refine D_take 7 rfl (pev_ok rfl) ?_ rfl rfl (by kernel_rfl) (by kernel_rfl)
  refine D_done ?_ (by kernel_rfl)
  skip
  focus (refine S_seq rfl ?_; refine S_region rfl rfl ?_; refine R_p rfl ?_ rfl rfl; refine R_p rfl ?_ rfl rfl; refine R_p rfl ?_ rfl rfl; refine R_p rfl ?_ rfl rfl; refine R_take (T_slbg (sz := 2) rfl rfl rfl rfl rfl rfl rfl (by omega) (by omega) (by omega)) ?_ rfl rfl; (refine R_eff0 (E_clear (sz := 2) rfl rfl rfl rfl rfl rfl rfl (by simp only [List.length_append, List.length_take, List.length_drop]; omega)) ?_ rfl; rintro _ _ ⟨zs, -, hzs, rfl⟩); refine R_nil ?_; refine S_seq rfl ?_; refine S_region rfl rfl ?_; refine R_p rfl ?_ rfl rfl; refine R_p rfl ?_ rfl rfl; refine R_nil ?_)
  all_goals (try (exfalso; omega))
  refine hB _ _ _ _ _ rfl rfl fun w' hS => ⟨(some ⟨gb, 0, none⟩, c), rfl, trivial, ?_⟩
  refine (hS.close (m := i + (m - j)) (c := c) (size := 2) (gb := gb) (e := 70) (xs := xs.take (i * 2) ++ xs.drop (j * 2)) (by omega) hcm ?_ ?_)
  · simp only [List.length_append, List.length_take, List.length_drop, List.length_cons, List.length_nil]; omega
  · simp only [Nat.zero_add, Nat.add_mul, Nat.sub_mul]
    exact del_ xs ys zs (i * 2) (j * 2) (m * 2) hxl (by omega) (by omega) _ _
end Go.Proofs.Ytghfjfgpiomdhaa

namespace Go.Proofs.Ytghfjfgpiomdhaa
set_option linter.unusedVariables false
set_option linter.unusedSimpArgs false
set_option linter.unnecessarySimpa false
theorem sl_irr (a : Str) : ¬ a < a := List.lt_irrefl a
theorem sl_tr {a b c : Str} (h : a < b) (h2 : b < c) : a < c := List.lt_trans h h2
theorem sl_as {a b : Str} (h : a < b) : ¬ b < a := fun h2 => sl_irr _ (sl_tr h h2)
theorem sl_tri (a b : Str) : a < b ∨ a = b ∨ b < a := by
  by_cases h : a < b
  · exact .inl h
  · by_cases h2 : b < a
    · exact .inr (.inr h2)
    · exact .inr (.inl (List.le_antisymm (List.not_lt.1 h2) (List.not_lt.1 h)))
theorem sl_ne {a b : Str} (h : a < b) : a ≠ b := fun e => sl_irr b (e ▸ h)
/-- rising by a key -/
def Srt {α : Type} (k : α → Str) (L : List α) : Prop := L.Pairwise (fun x y => k x < k y)
theorem srt_ext {α : Type} {k : α → Str} : ∀ {L M : List α}, Srt k L → Srt k M → (∀ x, x ∈ L ↔ x ∈ M) → L = M
  | [], [], _, _, _ => rfl
  | [], y :: M, _, _, h => by have := (h y).2 (by simp); simp at this
  | x :: L, [], _, _, h => by have := (h x).1 (by simp); simp at this
  | x :: L, y :: M, h1, h2, h => by
    have h1' := List.pairwise_cons.1 h1
    have h2' := List.pairwise_cons.1 h2
    have e : x = y := by
      rcases List.mem_cons.1 ((h x).1 (by simp)) with e | hx
      · exact e
      · rcases List.mem_cons.1 ((h y).2 (by simp)) with e | hy
        · exact e.symm
        · exact absurd (h1'.1 y hy) (sl_as (h2'.1 x hx))
    subst e
    rw [srt_ext h1'.2 h2'.2 fun z => ?_]
    constructor
    · intro hz
      rcases List.mem_cons.1 ((h z).1 (by simp [hz])) with e | h3
      · subst e; exact absurd (h1'.1 z hz) (sl_irr _)
      · exact h3
    · intro hz
      rcases List.mem_cons.1 ((h z).2 (by simp [hz])) with e | h3
      · subst e; exact absurd (h2'.1 z hz) (sl_irr _)
      · exact h3
theorem srt_filter {α : Type} {k : α → Str} {L : List α} (h : Srt k L) (p : α → Bool) : Srt k (L.filter p) := List.Pairwise.filter p h
theorem srt_key {α : Type} {k : α → Str} {L : List α} (h : Srt k L) {x y : α} (hx : x ∈ L) (hy : y ∈ L) (he : k x = k y) : x = y := by
  obtain ⟨i, hi, rfl⟩ := List.getElem_of_mem hx
  obtain ⟨j, hj, rfl⟩ := List.getElem_of_mem hy
  rcases Nat.lt_trichotomy i j with h3 | h3 | h3
  · exact absurd he (sl_ne (List.pairwise_iff_getElem.1 h i j hi hj h3))
  · subst h3; rfl
  · exact absurd he.symm (sl_ne (List.pairwise_iff_getElem.1 h j i hj hi h3))
/-- below, above -/
def lo {α : Type} (k : α → Str) (L : List α) (s : Str) : List α := L.filter (fun x => decide (k x < s))
def hi {α : Type} (k : α → Str) (L : List α) (s : Str) : List α := L.filter (fun x => decide (s < k x))
theorem srt_put {α : Type} {k : α → Str} {L : List α} (h : Srt k L) (s : Str) (m : List α) (hm : ∀ x ∈ m, k x = s) (hm2 : m.length ≤ 1) : Srt k (lo k L s ++ m ++ hi k L s) := by
  unfold Srt
  rw [List.pairwise_append, List.pairwise_append]
  have hl : ∀ x ∈ lo k L s, k x < s := fun x hx => by simpa using (List.mem_filter.1 hx).2
  have hh : ∀ x ∈ hi k L s, s < k x := fun x hx => by simpa using (List.mem_filter.1 hx).2
  refine ⟨⟨srt_filter h _, ?_, fun x hx y hy => ?_⟩, srt_filter h _, fun x hx y hy => ?_⟩
  · match m, hm2 with
    | [], _ => exact List.Pairwise.nil
    | [a], _ => exact List.pairwise_singleton _ _
  · rw [hm y hy]; exact hl x hx
  · rcases List.mem_append.1 hx with hx | hx
    · exact sl_tr (hl x hx) (hh y hy)
    · rw [hm x hx]; exact hh y hy
/-- where one goes, and is -/
def cutR (L : List Rw) (s : Str) : Nat := (lo (·.1) L s).length
def thereR (L : List Rw) (s : Str) : Bool := L.any (fun x => decide (x.1 = s))
theorem cut_at {L : List Rw} {s : Str} {i : Nat} (hi : i ≤ L.length) (h1 : ∀ k, k < i → (L.getD k default).1 < s) (h2 : ∀ k, i ≤ k → k < L.length → ¬ (L.getD k default).1 < s) : lo (·.1) L s = L.take i := by
  unfold lo
  conv => lhs; rw [← List.take_append_drop i L, List.filter_append]
  have e1 : (L.take i).filter (fun x => decide (x.1 < s)) = L.take i := by
    rw [List.filter_eq_self]
    intro x hx
    obtain ⟨j, hj, rfl⟩ := List.getElem_of_mem hx
    simp only [List.length_take] at hj
    have := h1 j (by omega)
    simp [List.getD, show j < L.length by omega] at this
    simpa using this
  have e2 : (L.drop i).filter (fun x => decide (x.1 < s)) = [] := by
    rw [List.filter_eq_nil_iff]
    intro x hx
    obtain ⟨j, hj, rfl⟩ := List.getElem_of_mem hx
    simp only [List.length_drop] at hj
    have := h2 (i + j) (by omega) (by omega)
    simp [List.getD, show i + j < L.length by omega] at this
    simpa using this
  rw [e1, e2, List.append_nil]
theorem cut_hi {L : List Rw} {s : Str} (h : Srt (·.1) L) {i : Nat} (hi' : i ≤ L.length) (h1 : ∀ k, k < i → (L.getD k default).1 < s) (h2 : ∀ k, i ≤ k → k < L.length → ¬ (L.getD k default).1 < s) (h3 : i < L.length → (L.getD i default).1 ≠ s) : hi (·.1) L s = L.drop i ∧ thereR L s = false := by
  have hd : ∀ x ∈ L.drop i, s < x.1 := fun x hx => by
    obtain ⟨j, hj, rfl⟩ := List.getElem_of_mem hx
    simp only [List.length_drop] at hj
    have a1 := h2 (i + j) (by omega) (by omega)
    have a2 := h3 (by omega)
    have e : (L.getD (i + j) default) = (L.drop i)[j] := by simp [List.getD, show i + j < L.length by omega]
    rw [e] at a1
    rcases sl_tri ((L.drop i)[j]).1 s with a | a | a
    · exact absurd a a1
    · rcases Nat.eq_zero_or_pos j with hj0 | hj0
      · subst hj0
        rw [Nat.add_zero] at e
        rw [e] at a2
        exact absurd a a2
      · have a4 := List.pairwise_iff_getElem.1 h i (i + j) (by omega) (by omega) (by omega)
        have a5 : L[i + j] = (L.drop i)[j] := by simp
        rw [a5] at a4
        have a4 : L[i].1 < ((L.drop i)[j]).1 := a4
        rw [a] at a4
        have a6 := h2 i (Nat.le_refl _) (by omega)
        simp [List.getD, show i < L.length by omega] at a6
        exact absurd a4 (by simpa using a6)
    · exact a
  have ht : ∀ x ∈ L.take i, x.1 < s := fun x hx => by
    obtain ⟨j, hj, rfl⟩ := List.getElem_of_mem hx
    simp only [List.length_take] at hj
    have := h1 j (by omega)
    simp only [List.getD, show j < L.length by omega, List.getElem?_eq_getElem, Option.getD_some] at this
    simpa using this
  constructor
  · unfold hi
    conv => lhs; rw [← List.take_append_drop i L, List.filter_append]
    have e1 : (L.take i).filter (fun x => decide (s < x.1)) = [] := by
      rw [List.filter_eq_nil_iff]
      intro x hx
      simpa using sl_as (ht x hx)
    have e2 : (L.drop i).filter (fun x => decide (s < x.1)) = L.drop i := by
      rw [List.filter_eq_self]
      intro x hx
      simpa using hd x hx
    rw [e1, e2, List.nil_append]
  · unfold thereR
    rw [List.any_eq_false]
    intro x hx
    rw [← List.take_append_drop i L] at hx
    rcases List.mem_append.1 hx with hx | hx
    · simpa using sl_ne (ht x hx)
    · simpa using (sl_ne (hd x hx)).symm

theorem cut_there {L : List Rw} {s : Str} (h : Srt (·.1) L) {i : Nat} (hl : i < L.length) (h3 : (L.getD i default).1 = s) : hi (·.1) L s = L.drop (i + 1) ∧ thereR L s = true := by
  have hg : L.getD i default = L[i] := by simp [List.getD, hl]
  rw [hg] at h3
  constructor
  · unfold hi
    conv => lhs; rw [← List.take_append_drop (i + 1) L, List.filter_append]
    have e1 : (L.take (i + 1)).filter (fun x => decide (s < x.1)) = [] := by
      rw [List.filter_eq_nil_iff]
      intro x hx
      obtain ⟨j, hj, rfl⟩ := List.getElem_of_mem hx
      simp only [List.length_take] at hj
      rw [List.getElem_take]
      rcases Nat.lt_or_ge j i with h4 | h4
      · have a4 : L[j].1 < L[i].1 := List.pairwise_iff_getElem.1 h j i (by omega) hl h4
        rw [h3] at a4
        simpa using sl_as a4
      · have : j = i := by omega
        subst this
        rw [h3]
        simpa using sl_irr s
    have e2 : (L.drop (i + 1)).filter (fun x => decide (s < x.1)) = L.drop (i + 1) := by
      rw [List.filter_eq_self]
      intro x hx
      obtain ⟨j, hj, rfl⟩ := List.getElem_of_mem hx
      simp only [List.length_drop] at hj
      rw [List.getElem_drop]
      have a4 : L[i].1 < L[i + 1 + j].1 := List.pairwise_iff_getElem.1 h i (i + 1 + j) hl (by omega) (by omega)
      rw [h3] at a4
      simpa using a4
    rw [e1, e2, List.nil_append]
  · unfold thereR
    rw [List.any_eq_true]
    exact ⟨L[i], List.getElem_mem hl, by simpa using h3⟩
/-- one change applied -/
def updR (L : List Rw) (c : Ch) : List Rw := lo (·.1) L c.1 ++ (if c.2.1 then [(c.1, c.2.2)] else []) ++ hi (·.1) L c.1
theorem upd_srt {L : List Rw} (h : Srt (·.1) L) (c : Ch) : Srt (·.1) (updR L c) := by
  unfold updR
  apply srt_put h
  · split
    · intro x hx; simp at hx; subst hx; rfl
    · simp
  · split <;> simp
theorem upd_mem {L : List Rw} (c : Ch) (x : Rw) : x ∈ updR L c ↔ (x ∈ L ∧ x.1 ≠ c.1) ∨ (c.2.1 = true ∧ x = (c.1, c.2.2)) := by
  unfold updR lo hi
  simp only [List.mem_append, List.mem_filter, decide_eq_true_eq]
  constructor
  · rintro ((⟨a, b⟩ | a) | ⟨a, b⟩)
    · exact .inl ⟨a, sl_ne b⟩
    · split at a
      · rename_i h; exact .inr ⟨h, by simpa using a⟩
      · simp at a
    · exact .inl ⟨a, (sl_ne b).symm⟩
  · rintro (⟨a, b⟩ | ⟨a, b⟩)
    · rcases sl_tri x.1 c.1 with h | h | h
      · exact .inl (.inl ⟨a, h⟩)
      · exact absurd h b
      · exact .inr ⟨a, h⟩
    · rw [if_pos a]
      exact .inl (.inr (by simpa using b))
/-- the three ways -/
theorem upd_set {L : List Rw} {s t : Str} {i : Nat} (h : Srt (·.1) L) (hl : i < L.length) (h1 : lo (·.1) L s = L.take i) (h2 : (L.getD i default).1 = s) : updR L (s, true, t) = L.set i (s, t) := by
  rw [updR, h1, (cut_there h hl h2).1, List.set_eq_take_append_cons_drop, if_pos hl]
  simp
theorem upd_del {L : List Rw} {s t : Str} {i : Nat} (h : Srt (·.1) L) (hl : i < L.length) (h1 : lo (·.1) L s = L.take i) (h2 : (L.getD i default).1 = s) : updR L (s, false, t) = L.take i ++ L.drop (i + 1) := by
  rw [updR, h1, (cut_there h hl h2).1]
  simp
theorem upd_ins {L : List Rw} {s t : Str} {i : Nat} (h1 : lo (·.1) L s = L.take i) (h2 : hi (·.1) L s = L.drop i) : updR L (s, true, t) = L.take i ++ (s, t) :: L.drop i := by
  rw [updR, h1, h2]
  simp
theorem upd_not {L : List Rw} {s t : Str} {i : Nat} (h1 : lo (·.1) L s = L.take i) (h2 : hi (·.1) L s = L.drop i) : updR L (s, false, t) = L := by
  rw [updR, h1, h2]
  simp
end Go.Proofs.Ytghfjfgpiomdhaa

namespace Go.Proofs.Ytghfjfgpiomdhaa
open Go.RowKit
open Asn (pt row rb)
set_option linter.unusedVariables false
set_option linter.unusedSimpArgs false
--@use N

theorem less_T {a b : Str} (h : a < b) : Op.bytesLess a b = true := by rw [bytesLess_eq]; exact decide_eq_true h
theorem less_F {a b : Str} (h : ¬ a < b) : Op.bytesLess a b = false := by rw [bytesLess_eq]; exact decide_eq_false h
def cmpS (a b : Str) : Int := if Op.bytesLess a b then -1 else if Op.bytesLess b a then 1 else 0
theorem cmp_lt {a b : Str} (h : a < b) : cmpS a b < 0 := by rw [cmpS, less_T h, if_pos rfl]; decide
theorem cmp_ge {a b : Str} (h : ¬ a < b) : ¬ cmpS a b < 0 := by rw [cmpS, less_F h]; simp only [Bool.false_eq_true, if_false]; split <;> omega
theorem cmp_eq {a b : Str} (h : a = b) : cmpS a b = 0 := by subst h; rw [cmpS, less_F (sl_irr a)]; rfl
theorem cmp_ne {a b : Str} (h : a ≠ b) : ¬ cmpS a b = 0 := by
  rcases sl_tri a b with h1 | h1 | h1
  · have := cmp_lt h1; omega
  · exact absurd h1 h
  · rw [cmpS, less_F (sl_as h1), less_T h1]; decide
set_option maxRecDepth 100000 in
set_option maxHeartbeats 4000000 in
theorem isNaN_any (w : World) (s : Str) :
    Gives Try.prog 78 [sv s] [] w (X := Unit) (fun _ => .bool false) (fun _ => True) (fun _ => []) := by
  refine gives_S Try.func78 rfl Try.ntmps78 Try.results78 (by simp) (St.enter w) (fun B hB => ?_)
  have hc : scmp .neq s s = some false := by simp [scmp]
  focus (refine S_seq rfl ?_; refine S_region rfl rfl ?_; refine R_p rfl ?_ rfl rfl; refine R_nil ?_; refine S_seq rfl ?_; refine S_region rfl rfl ?_; refine R_p rfl ?_ rfl rfl; refine R_p rfl ?_ rfl rfl; refine R_take (T_scm (a := s) (b := s) rfl rfl hc) ?_ rfl rfl; refine R_p rfl ?_ rfl rfl; refine R_nil ?_)
  exact hB _ _ _ _ _ rfl rfl fun w' hS => ⟨(), rfl, trivial, hS.sublist (List.nil_sublist _)⟩
set_option maxRecDepth 100000 in
set_option maxHeartbeats 4000000 in
theorem compare_any (w : World) (a b : Str) :
    Gives Try.prog 66 [sv a, sv b] [] w (X := Unit) (fun _ => zi (cmpS a b)) (fun _ => True) (fun _ => []) := by
  refine gives_S Try.func66 rfl Try.ntmps66 Try.results66 (by simp) (St.enter w) (fun B hB => ?_)
  have h1 : scmp .lss a b = some (Op.bytesLess a b) := rfl
  have h2 : scmp .gtr a b = some (Op.bytesLess b a) := congrArg some (by rw [less_or, Bool.not_not])
  obtain ⟨p, hp⟩ : ∃ p, Op.bytesLess a b = p := ⟨_, rfl⟩
  obtain ⟨q, hq⟩ : ∃ q, Op.bytesLess b a = q := ⟨_, rfl⟩
  have hcv : cmpS a b = if p then -1 else if q then 1 else 0 := by rw [cmpS, hp, hq]
  rw [hp] at h1
  rw [hq] at h2
  cases p
  all_goals cases q
  all_goals skip
  · focus (refine S_seq rfl ?_; refine S_region rfl rfl ?_; refine R_p rfl ?_ rfl rfl; refine R_nil ?_; refine S_seq rfl ?_; refine S_region rfl rfl ?_; refine R_p rfl ?_ rfl rfl; (refine R_eff (E_gv0 (f := 78) ⟨_, Try.func78, rfl, by kernel_rfl⟩ rfl (fun w hS => isNaN_any w a) (fun _ => rfl)) ?_ rfl rfl; rintro _ _ ⟨_, rfl, _, rfl⟩); refine R_p rfl ?_ rfl rfl; refine R_nil ?_; refine S_seq rfl ?_; refine S_region rfl rfl ?_; refine R_p rfl ?_ rfl rfl; (refine R_eff (E_gv0 (f := 78) ⟨_, Try.func78, rfl, by kernel_rfl⟩ rfl (fun w hS => isNaN_any w b) (fun _ => rfl)) ?_ rfl rfl; rintro _ _ ⟨_, rfl, _, rfl⟩); refine R_p rfl ?_ rfl rfl; refine R_nil ?_; refine S_seq rfl ?_; refine S_seq rfl ?_; refine S_region rfl rfl ?_; refine R_p rfl ?_ rfl rfl; refine R_nil ?_; refine S_false rfl rfl ?_; refine S_skip rfl ?_; refine S_seq rfl ?_; refine S_seq rfl ?_; refine S_region rfl rfl ?_; refine R_p rfl ?_ rfl rfl; refine R_nil ?_; refine S_false rfl rfl ?_; refine S_skip rfl ?_; refine S_seq rfl ?_; refine S_seq rfl ?_; refine S_region rfl rfl ?_; refine R_p rfl ?_ rfl rfl; refine R_p rfl ?_ rfl rfl; refine R_take (T_scm (a := a) (b := b) rfl rfl h1) ?_ rfl rfl; refine R_nil ?_; refine S_false rfl rfl ?_; refine S_skip rfl ?_; refine S_seq rfl ?_; refine S_seq rfl ?_; refine S_region rfl rfl ?_; refine R_p rfl ?_ rfl rfl; refine R_p rfl ?_ rfl rfl; refine R_take (T_scm (a := a) (b := b) rfl rfl h2) ?_ rfl rfl; refine R_nil ?_; refine S_false rfl rfl ?_; refine S_skip rfl ?_; refine S_seq rfl ?_; refine S_region rfl rfl ?_; refine R_p rfl ?_ rfl rfl; refine R_nil ?_)
    refine hB _ _ _ _ _ rfl rfl fun w' hS => ⟨(), ?_, trivial, hS.sublist (List.nil_sublist _)⟩
    rw [hcv]
    rfl
  · focus (refine S_seq rfl ?_; refine S_region rfl rfl ?_; refine R_p rfl ?_ rfl rfl; refine R_nil ?_; refine S_seq rfl ?_; refine S_region rfl rfl ?_; refine R_p rfl ?_ rfl rfl; (refine R_eff (E_gv0 (f := 78) ⟨_, Try.func78, rfl, by kernel_rfl⟩ rfl (fun w hS => isNaN_any w a) (fun _ => rfl)) ?_ rfl rfl; rintro _ _ ⟨_, rfl, _, rfl⟩); refine R_p rfl ?_ rfl rfl; refine R_nil ?_; refine S_seq rfl ?_; refine S_region rfl rfl ?_; refine R_p rfl ?_ rfl rfl; (refine R_eff (E_gv0 (f := 78) ⟨_, Try.func78, rfl, by kernel_rfl⟩ rfl (fun w hS => isNaN_any w b) (fun _ => rfl)) ?_ rfl rfl; rintro _ _ ⟨_, rfl, _, rfl⟩); refine R_p rfl ?_ rfl rfl; refine R_nil ?_; refine S_seq rfl ?_; refine S_seq rfl ?_; refine S_region rfl rfl ?_; refine R_p rfl ?_ rfl rfl; refine R_nil ?_; refine S_false rfl rfl ?_; refine S_skip rfl ?_; refine S_seq rfl ?_; refine S_seq rfl ?_; refine S_region rfl rfl ?_; refine R_p rfl ?_ rfl rfl; refine R_nil ?_; refine S_false rfl rfl ?_; refine S_skip rfl ?_; refine S_seq rfl ?_; refine S_seq rfl ?_; refine S_region rfl rfl ?_; refine R_p rfl ?_ rfl rfl; refine R_p rfl ?_ rfl rfl; refine R_take (T_scm (a := a) (b := b) rfl rfl h1) ?_ rfl rfl; refine R_nil ?_; refine S_false rfl rfl ?_; refine S_skip rfl ?_; refine S_seq rfl ?_; refine S_seq rfl ?_; refine S_region rfl rfl ?_; refine R_p rfl ?_ rfl rfl; refine R_p rfl ?_ rfl rfl; refine R_take (T_scm (a := a) (b := b) rfl rfl h2) ?_ rfl rfl; refine R_nil ?_; refine S_true rfl rfl ?_; refine S_seq rfl ?_; refine S_region rfl rfl ?_; refine R_p rfl ?_ rfl rfl; refine R_nil ?_)
    refine hB _ _ _ _ _ rfl rfl fun w' hS => ⟨(), ?_, trivial, hS.sublist (List.nil_sublist _)⟩
    rw [hcv]
    rfl
  · focus (refine S_seq rfl ?_; refine S_region rfl rfl ?_; refine R_p rfl ?_ rfl rfl; refine R_nil ?_; refine S_seq rfl ?_; refine S_region rfl rfl ?_; refine R_p rfl ?_ rfl rfl; (refine R_eff (E_gv0 (f := 78) ⟨_, Try.func78, rfl, by kernel_rfl⟩ rfl (fun w hS => isNaN_any w a) (fun _ => rfl)) ?_ rfl rfl; rintro _ _ ⟨_, rfl, _, rfl⟩); refine R_p rfl ?_ rfl rfl; refine R_nil ?_; refine S_seq rfl ?_; refine S_region rfl rfl ?_; refine R_p rfl ?_ rfl rfl; (refine R_eff (E_gv0 (f := 78) ⟨_, Try.func78, rfl, by kernel_rfl⟩ rfl (fun w hS => isNaN_any w b) (fun _ => rfl)) ?_ rfl rfl; rintro _ _ ⟨_, rfl, _, rfl⟩); refine R_p rfl ?_ rfl rfl; refine R_nil ?_; refine S_seq rfl ?_; refine S_seq rfl ?_; refine S_region rfl rfl ?_; refine R_p rfl ?_ rfl rfl; refine R_nil ?_; refine S_false rfl rfl ?_; refine S_skip rfl ?_; refine S_seq rfl ?_; refine S_seq rfl ?_; refine S_region rfl rfl ?_; refine R_p rfl ?_ rfl rfl; refine R_nil ?_; refine S_false rfl rfl ?_; refine S_skip rfl ?_; refine S_seq rfl ?_; refine S_seq rfl ?_; refine S_region rfl rfl ?_; refine R_p rfl ?_ rfl rfl; refine R_p rfl ?_ rfl rfl; refine R_take (T_scm (a := a) (b := b) rfl rfl h1) ?_ rfl rfl; refine R_nil ?_; refine S_true rfl rfl ?_; refine S_seq rfl ?_; refine S_region rfl rfl ?_; refine R_p rfl ?_ rfl rfl; refine R_nil ?_)
    refine hB _ _ _ _ _ rfl rfl fun w' hS => ⟨(), ?_, trivial, hS.sublist (List.nil_sublist _)⟩
    rw [hcv]
    rfl
  · focus (refine S_seq rfl ?_; refine S_region rfl rfl ?_; refine R_p rfl ?_ rfl rfl; refine R_nil ?_; refine S_seq rfl ?_; refine S_region rfl rfl ?_; refine R_p rfl ?_ rfl rfl; (refine R_eff (E_gv0 (f := 78) ⟨_, Try.func78, rfl, by kernel_rfl⟩ rfl (fun w hS => isNaN_any w a) (fun _ => rfl)) ?_ rfl rfl; rintro _ _ ⟨_, rfl, _, rfl⟩); refine R_p rfl ?_ rfl rfl; refine R_nil ?_; refine S_seq rfl ?_; refine S_region rfl rfl ?_; refine R_p rfl ?_ rfl rfl; (refine R_eff (E_gv0 (f := 78) ⟨_, Try.func78, rfl, by kernel_rfl⟩ rfl (fun w hS => isNaN_any w b) (fun _ => rfl)) ?_ rfl rfl; rintro _ _ ⟨_, rfl, _, rfl⟩); refine R_p rfl ?_ rfl rfl; refine R_nil ?_; refine S_seq rfl ?_; refine S_seq rfl ?_; refine S_region rfl rfl ?_; refine R_p rfl ?_ rfl rfl; refine R_nil ?_; refine S_false rfl rfl ?_; refine S_skip rfl ?_; refine S_seq rfl ?_; refine S_seq rfl ?_; refine S_region rfl rfl ?_; refine R_p rfl ?_ rfl rfl; refine R_nil ?_; refine S_false rfl rfl ?_; refine S_skip rfl ?_; refine S_seq rfl ?_; refine S_seq rfl ?_; refine S_region rfl rfl ?_; refine R_p rfl ?_ rfl rfl; refine R_p rfl ?_ rfl rfl; refine R_take (T_scm (a := a) (b := b) rfl rfl h1) ?_ rfl rfl; refine R_nil ?_; refine S_true rfl rfl ?_; refine S_seq rfl ?_; refine S_region rfl rfl ?_; refine R_p rfl ?_ rfl rfl; refine R_nil ?_)
    refine hB _ _ _ _ _ rfl rfl fun w' hS => ⟨(), ?_, trivial, hS.sublist (List.nil_sublist _)⟩
    rw [hcv]
    rfl
set_option maxRecDepth 100000 in
set_option maxHeartbeats 4000000 in
theorem cmpR_any (w : World) (x : Rw) (s : Str) :
    Gives Try.prog 65 [.agg (rwc x).toArray, sv s] [] w (X := Unit) (fun _ => zi (cmpS x.1 s)) (fun _ => True) (fun _ => []) := by
  refine gives_S Try.func65 rfl Try.ntmps65 Try.results65 (by simp) (St.enter w) (fun B hB => ?_)
  focus (refine S_seq rfl ?_; refine S_region rfl rfl ?_; (refine R_eff (E_boxa rfl) ?_ rfl rfl; rintro _ _ ⟨b, rfl, rfl⟩); refine R_p rfl ?_ rfl rfl; refine R_nil ?_; refine S_seq rfl ?_; refine S_region rfl rfl ?_; refine R_p rfl ?_ rfl rfl; refine R_take (T_load rfl rfl rfl (by first | rfl | assumption)) ?_ rfl rfl; refine R_p rfl ?_ rfl rfl; (refine R_eff (E_gv0 (f := 66) ⟨_, Try.func66, rfl, by kernel_rfl⟩ rfl (fun w hS => compare_any w x.1 s) (fun _ => rfl)) ?_ rfl rfl; rintro _ _ ⟨_, rfl, _, rfl⟩); refine R_p rfl ?_ rfl rfl; refine R_nil ?_)
  exact hB _ _ _ _ _ rfl rfl fun w' hS => ⟨(), rfl, trivial, hS.sublist (List.nil_sublist _)⟩
theorem E_cmpR {n : Nat} {w0 : World} {M : Nat → Prop} {T : Slots} {H : List Asn} {dd : Option Tmp} {tt : TypeId} {pos : String} {af : Array Edge} {g : Option (Nat × Bool)} {x y z : Operand} {ts : Array TypeId} {a : Rw} {s : Str} {r : Int} (hx : oget T x = some (.func (.func 65) #[] #[])) (hy : oget T y = some (.agg (rwc a).toArray)) (hz : oget T z = some (sv s)) (hr : cmpS a.1 s = r) :
    Ef Try.prog n w0 M T H ⟨dd, .call ⟨.value x, #[y, z], ts⟩, tt, pos, af, g⟩ (fun u H' => u = zi r ∧ H' = H) := by
  subst hr
  refine (E_cloA (cap := []) hx (E_gv0 ⟨_, Try.func65, rfl, by kernel_rfl⟩ (vs := [.agg (rwc a).toArray, sv s]) (by simp [ogets, hy, hz]) (fun w' hS => cmpR_any w' a s) (fun _ => rfl))).mono ?_
  rintro v H' ⟨_, rfl, _, rfl⟩ w hS
  exact ⟨_, _, rfl, ⟨rfl, rfl⟩, hS⟩
end Go.Proofs.Ytghfjfgpiomdhaa

namespace Go.Proofs.Ytghfjfgpiomdhaa
open Go.RowKit
open Asn (pt row rb)
set_option linter.unusedVariables false
set_option linter.unusedSimpArgs false
--@use N

theorem T_shrN {P : Program} {n : Nat} {w0 : World} {M : Nat → Prop} {T : Slots} {H : List Asn} {dd : Option Tmp} {tt : TypeId} {pos : String} {af : Array Edge} {g : Option (Nat × Bool)} {x y : Operand} {t u : TypeId} {kk kj : IntKind} {i j : Int} {p q : Nat} (hx : oget T x = some (.int kk i)) (hy : oget T y = some (.int kj j)) [hi : NatOf i p] [hj : NatOf j q] (hq : q ≤ kk.bits) :
    Tk P n w0 M T H ⟨dd, .binOp .shr t x y u, tt, pos, af, g⟩ (.int kk ((p / 2 ^ q : Nat) : Int)) := by
  rw [hi.is] at hx
  rw [hj.is] at hy
  have h := T_shr (P := P) (n := n) (w0 := w0) (M := M) (H := H) (dd := dd) (tt := tt) (pos := pos) (af := af) (g := g) (t := t) (u := u) hx hy (by omega)
  have e : Int.fdiv (p : Int) (2 ^ (min ((q : Int)).toNat kk.bits)) = ((p / 2 ^ q : Nat) : Int) := by
    have e1 : min ((q : Int)).toNat kk.bits = q := by rw [Int.toNat_natCast]; omega
    rw [e1, Int.fdiv_eq_ediv_of_nonneg _ (Int.le_of_lt (Int.pow_pos (by decide))), Int.natCast_ediv, Int.natCast_pow]
    rfl
  rwa [e] at h
set_option maxRecDepth 100000 in
set_option maxHeartbeats 4000000 in
theorem binf_any (w : World) (A : Option Addr) (n c : Nat) (L : List Rw) (s : Str) (h : Rd w All 2 A n (cellsL rwc L)) (hn : n ≤ 1000) (hu : Srt (·.1) L) :
    Gives Try.prog 64 [.slice A n c, sv s, .func (.func 65) #[] #[]] [] w (X := Nat) (fun i => .tuple #[.int .i64 (i : Int), .bool (thereR L s)]) (fun i => i ≤ L.length ∧ lo (·.1) L s = L.take i ∧ (thereR L s = true → i < L.length ∧ (L.getD i default).1 = s) ∧ (thereR L s = false → hi (·.1) L s = L.drop i)) (fun _ => []) := by
  refine gives_S Try.func64 rfl Try.ntmps64 Try.results64 (by simp) (St.enter w) (fun B hB => ?_)
  have hl : L.length = n := by have := h.1; rw [cellsL_len rwc_len] at this; omega
  have hne : 0 < n → A ≠ none := fun h0 => by obtain ⟨ad, rfl, _⟩ := h.2 h0; simp
  subst hl
  focus (refine S_seq rfl ?_; refine S_region rfl rfl ?_; refine R_p rfl ?_ rfl rfl; refine R_p rfl ?_ rfl rfl; refine R_nil ?_; refine S_seq rfl ?_; refine S_region rfl rfl ?_; refine R_p rfl ?_ rfl rfl; refine R_p rfl ?_ rfl rfl; refine R_p rfl ?_ rfl rfl; refine R_nil ?_; refine S_seq rfl ?_; refine S_region rfl rfl ?_; refine R_p rfl ?_ rfl rfl; refine R_p rfl ?_ rfl rfl; refine R_p rfl ?_ rfl rfl; refine R_nil ?_; refine S_seq rfl ?_; refine S_block rfl ?_)
  refine S_loop (X := Nat × Nat) (fun q => [(0, .slice A L.length c), (1, sv s), (2, .func (.func 65) #[] #[]), (8, .int .i64 (L.length : Int)), (9, .int .i64 (q.1 : Int)), (10, .int .i64 (q.2 : Int))]) (fun _ => []) (fun q => q.1 ≤ q.2 ∧ q.2 ≤ L.length ∧ (∀ k, k < q.1 → (L.getD k default).1 < s) ∧ ∀ k, q.2 ≤ k → k < L.length → ¬ (L.getD k default).1 < s) (fun q => q.2 - q.1) rfl (0, L.length) ⟨Nat.zero_le _, Nat.le_refl _, fun k hk => by omega, fun k h1 h2 => by dsimp only at h1; omega⟩ (Sub.cons rfl (Sub.cons rfl (Sub.cons rfl (Sub.cons rfl (Sub.cons rfl (Sub.cons rfl Sub.nil)))))) (fun _ h => h) ?_
  rintro ⟨i, j⟩ ⟨hij, hjn, h1, h2⟩ J hJ
  dsimp only at hij hjn h1 h2 ⊢
  have hkey : ∀ p q, p < q → q < L.length → (L.getD p default).1 < (L.getD q default).1 := fun p q hpq hq => by
    have := List.pairwise_iff_getElem.1 hu p q (by omega) hq hpq
    simpa [List.getD, hq, show p < L.length by omega] using this
  rcases Nat.lt_or_ge i j with hlt | hlt
  · have hne := hne (by omega)
    obtain ⟨k, hk⟩ : ∃ k, (i + j) / 2 ^ 1 = k := ⟨_, rfl⟩
    have hkj : k < j := by omega
    have hki : i ≤ k := by omega
    have hat := cellsL_at (f := rwc) rwc_len L default k (by omega)
    have hk2 := fun q (a : q < k) => hkey q k a (by omega)
    have hk3 := fun q (a : k < q) b => hkey k q a b
    obtain ⟨x, hx⟩ : ∃ x, L.getD k default = x := ⟨_, rfl⟩
    rw [hx] at hat hk2 hk3
    have hat : ∀ e v, (rwc x)[e]? = some v → (cellsL rwc L)[(i + j) / 2 ^ 1 * 2 + e]? = some v := by rw [hk]; exact hat
    obtain ⟨r, hr⟩ : ∃ r, cmpS x.1 s = r := ⟨_, rfl⟩
    by_cases hxs : x.1 < s
    · have hr0 := cmp_lt hxs
      rw [hr] at hr0
      focus (refine S_seq rfl ?_; refine S_seq rfl ?_; refine S_region rfl rfl ?_; refine R_p rfl ?_ rfl rfl; refine R_p rfl ?_ rfl rfl; refine R_take (T_decT rfl (by omega)) ?_ rfl rfl; refine R_nil ?_; refine S_true rfl rfl ?_; refine S_skip rfl ?_; refine S_block rfl ?_; refine S_seq rfl ?_; refine S_region rfl rfl ?_; refine R_p rfl ?_ rfl rfl; refine R_p rfl ?_ rfl rfl; refine R_take (T_addN rfl rfl (by unfold fits; omega)) ?_ rfl rfl; refine R_take (T_convf rfl rfl rfl rfl (by unfold fits; omega)) ?_ rfl rfl; refine R_take (T_shrN rfl rfl (by decide)) ?_ rfl rfl; refine R_take (T_convf rfl rfl rfl rfl (by unfold fits; omega)) ?_ rfl rfl; refine R_p rfl ?_ rfl rfl; refine R_nil ?_; refine S_seq rfl ?_; refine S_region rfl rfl ?_; refine R_p rfl ?_ rfl rfl; refine R_p rfl ?_ rfl rfl; refine R_p rfl ?_ rfl rfl; refine R_take (T_ixM (sz := 2) rfl rfl rfl rfl rfl rfl hne (by omega)) ?_ rfl rfl; refine R_take (T_lda (ds := rwc x) rfl rfl rfl (Srd.old h (fun k _ => noOwns k)) rfl (by omega) hat) ?_ rfl rfl; refine R_p rfl ?_ rfl rfl; (refine R_eff (E_cmpR (a := x) rfl rfl rfl hr) ?_ rfl rfl; rintro _ _ ⟨rfl, rfl⟩); refine R_take (T_decT rfl (by omega)) ?_ rfl rfl; refine R_nil ?_; refine S_true rfl rfl ?_; refine S_region rfl rfl ?_; refine R_p rfl ?_ rfl rfl; refine R_take (T_addN rfl rfl (by unfold fits; omega)) ?_ rfl rfl; refine R_p rfl ?_ rfl rfl; refine R_nil ?_; refine RS_blk ?_)
      refine hJ ((i + j) / 2 ^ 1 + 1, j) _ _ ⟨by dsimp only; omega, by dsimp only; omega, fun q hq => ?_, h2⟩ (Sub.cons rfl (Sub.cons rfl (Sub.cons rfl (Sub.cons rfl (Sub.cons rfl (Sub.cons rfl Sub.nil)))))) (fun _ h => h) (by dsimp only; omega)
      dsimp only at hq
      rcases Nat.lt_or_ge q k with h3 | h3
      · exact sl_tr (hk2 q h3) hxs
      · rw [show q = k by omega, hx]; exact hxs
    · have hr0 := cmp_ge hxs
      rw [hr] at hr0
      focus (refine S_seq rfl ?_; refine S_seq rfl ?_; refine S_region rfl rfl ?_; refine R_p rfl ?_ rfl rfl; refine R_p rfl ?_ rfl rfl; refine R_take (T_decT rfl (by omega)) ?_ rfl rfl; refine R_nil ?_; refine S_true rfl rfl ?_; refine S_skip rfl ?_; refine S_block rfl ?_; refine S_seq rfl ?_; refine S_region rfl rfl ?_; refine R_p rfl ?_ rfl rfl; refine R_p rfl ?_ rfl rfl; refine R_take (T_addN rfl rfl (by unfold fits; omega)) ?_ rfl rfl; refine R_take (T_convf rfl rfl rfl rfl (by unfold fits; omega)) ?_ rfl rfl; refine R_take (T_shrN rfl rfl (by decide)) ?_ rfl rfl; refine R_take (T_convf rfl rfl rfl rfl (by unfold fits; omega)) ?_ rfl rfl; refine R_p rfl ?_ rfl rfl; refine R_nil ?_; refine S_seq rfl ?_; refine S_region rfl rfl ?_; refine R_p rfl ?_ rfl rfl; refine R_p rfl ?_ rfl rfl; refine R_p rfl ?_ rfl rfl; refine R_take (T_ixM (sz := 2) rfl rfl rfl rfl rfl rfl hne (by omega)) ?_ rfl rfl; refine R_take (T_lda (ds := rwc x) rfl rfl rfl (Srd.old h (fun k _ => noOwns k)) rfl (by omega) hat) ?_ rfl rfl; refine R_p rfl ?_ rfl rfl; (refine R_eff (E_cmpR (a := x) rfl rfl rfl hr) ?_ rfl rfl; rintro _ _ ⟨rfl, rfl⟩); refine R_take (T_decF rfl (by omega)) ?_ rfl rfl; refine R_nil ?_; refine S_false rfl rfl ?_; refine S_region rfl rfl ?_; refine R_p rfl ?_ rfl rfl; refine R_p rfl ?_ rfl rfl; refine R_nil ?_; refine RS_blk ?_)
      refine hJ (i, (i + j) / 2 ^ 1) _ _ ⟨by dsimp only; omega, by dsimp only; omega, h1, fun q hq hqn => ?_⟩ (Sub.cons rfl (Sub.cons rfl (Sub.cons rfl (Sub.cons rfl (Sub.cons rfl (Sub.cons rfl Sub.nil)))))) (fun _ h => h) (by dsimp only; omega)
      dsimp only at hq
      rcases Nat.eq_or_lt_of_le hq with h3 | h3
      · rw [show q = k by omega, hx]; exact hxs
      · exact fun h4 => hxs (sl_tr (hk3 q (by omega) hqn) h4)
  have hij' : i = j := by omega
  subst hij'
  have hlo := cut_at hjn h1 h2
  rcases Nat.lt_or_ge i L.length with hin | hin
  · have hne := hne (by omega)
    have hat := cellsL_at (f := rwc) rwc_len L default i (by omega)
    obtain ⟨x, hx⟩ : ∃ x, L.getD i default = x := ⟨_, rfl⟩
    rw [hx] at hat
    obtain ⟨r, hr⟩ : ∃ r, cmpS x.1 s = r := ⟨_, rfl⟩
    by_cases hxs : x.1 = s
    · have hr0 := cmp_eq hxs
      rw [hr] at hr0
      have hth := (cut_there (s := s) hu hin (by rw [hx]; exact hxs)).2
      focus (refine S_seq rfl ?_; refine S_seq rfl ?_; refine S_region rfl rfl ?_; refine R_p rfl ?_ rfl rfl; refine R_p rfl ?_ rfl rfl; refine R_take (T_decF rfl (by omega)) ?_ rfl rfl; refine R_nil ?_; refine S_false rfl rfl ?_; refine S_exit rfl rfl ?_; refine S_seq rfl ?_; refine S_region rfl rfl ?_; refine R_p rfl ?_ rfl rfl; refine R_p rfl ?_ rfl rfl; refine R_p rfl ?_ rfl rfl; refine R_take (T_decT rfl (by omega)) ?_ rfl rfl; refine R_p rfl ?_ rfl rfl; refine R_p rfl ?_ rfl rfl; refine R_p rfl ?_ rfl rfl; refine R_p rfl ?_ rfl rfl; refine R_take (T_ixM (sz := 2) rfl rfl rfl rfl rfl rfl hne hin) ?_ rfl rfl; refine R_take (T_lda (ds := rwc x) rfl rfl rfl (Srd.old h (fun k _ => noOwns k)) rfl (by omega) hat) ?_ rfl rfl; refine R_p rfl ?_ rfl rfl; (refine R_eff (E_cmpR (a := x) rfl rfl rfl hr) ?_ rfl rfl; rintro _ _ ⟨rfl, rfl⟩); refine R_take (T_decT rfl (by omega)) ?_ rfl rfl; refine R_p rfl ?_ rfl rfl; refine R_p rfl ?_ rfl rfl; refine R_p rfl ?_ rfl rfl; refine R_nil ?_)
      refine hB _ _ _ _ _ rfl rfl fun w' hS => ⟨i, by rw [hth]; rfl, ⟨hjn, hlo, fun _ => ⟨hin, by rw [hx]; exact hxs⟩, fun h => (by rw [hth] at h; cases h)⟩, hS.sublist (List.nil_sublist _)⟩
    · have hr0 := cmp_ne hxs
      rw [hr] at hr0
      have hth := cut_hi (s := s) hu hjn h1 h2 (fun _ => by rw [hx]; exact hxs)
      focus (refine S_seq rfl ?_; refine S_seq rfl ?_; refine S_region rfl rfl ?_; refine R_p rfl ?_ rfl rfl; refine R_p rfl ?_ rfl rfl; refine R_take (T_decF rfl (by omega)) ?_ rfl rfl; refine R_nil ?_; refine S_false rfl rfl ?_; refine S_exit rfl rfl ?_; refine S_seq rfl ?_; refine S_region rfl rfl ?_; refine R_p rfl ?_ rfl rfl; refine R_p rfl ?_ rfl rfl; refine R_p rfl ?_ rfl rfl; refine R_take (T_decT rfl (by omega)) ?_ rfl rfl; refine R_p rfl ?_ rfl rfl; refine R_p rfl ?_ rfl rfl; refine R_p rfl ?_ rfl rfl; refine R_p rfl ?_ rfl rfl; refine R_take (T_ixM (sz := 2) rfl rfl rfl rfl rfl rfl hne hin) ?_ rfl rfl; refine R_take (T_lda (ds := rwc x) rfl rfl rfl (Srd.old h (fun k _ => noOwns k)) rfl (by omega) hat) ?_ rfl rfl; refine R_p rfl ?_ rfl rfl; (refine R_eff (E_cmpR (a := x) rfl rfl rfl hr) ?_ rfl rfl; rintro _ _ ⟨rfl, rfl⟩); refine R_take (T_decF rfl (by omega)) ?_ rfl rfl; refine R_p rfl ?_ rfl rfl; refine R_p rfl ?_ rfl rfl; refine R_p rfl ?_ rfl rfl; refine R_nil ?_)
      refine hB _ _ _ _ _ rfl rfl fun w' hS => ⟨i, by rw [hth.2]; rfl, ⟨hjn, hlo, fun h => (by rw [hth.2] at h; cases h), fun _ => hth.1⟩, hS.sublist (List.nil_sublist _)⟩
  have hth := cut_hi (s := s) hu hjn h1 h2 (fun h => absurd h (by omega))
  focus (refine S_seq rfl ?_; refine S_seq rfl ?_; refine S_region rfl rfl ?_; refine R_p rfl ?_ rfl rfl; refine R_p rfl ?_ rfl rfl; refine R_take (T_decF rfl (by omega)) ?_ rfl rfl; refine R_nil ?_; refine S_false rfl rfl ?_; refine S_exit rfl rfl ?_; refine S_seq rfl ?_; refine S_region rfl rfl ?_; refine R_p rfl ?_ rfl rfl; refine R_p rfl ?_ rfl rfl; refine R_p rfl ?_ rfl rfl; refine R_take (T_decF rfl (by omega)) ?_ rfl rfl; refine R_p rfl ?_ rfl rfl; refine R_skip ?_ rfl rfl; refine R_skip ?_ rfl rfl; refine R_skip ?_ rfl rfl; refine R_skip ?_ rfl rfl; refine R_skip ?_ rfl rfl; refine R_skip ?_ rfl rfl; refine R_skip ?_ rfl rfl; refine R_skip ?_ rfl rfl; refine R_p rfl ?_ rfl rfl; refine R_p rfl ?_ rfl rfl; refine R_p rfl ?_ rfl rfl; refine R_nil ?_)
  refine hB _ _ _ _ _ rfl rfl fun w' hS => ⟨i, by rw [hth.2]; rfl, ⟨hjn, hlo, fun h => (by rw [hth.2] at h; cases h), fun _ => hth.1⟩, hS.sublist (List.nil_sublist _)⟩
end Go.Proofs.Ytghfjfgpiomdhaa
