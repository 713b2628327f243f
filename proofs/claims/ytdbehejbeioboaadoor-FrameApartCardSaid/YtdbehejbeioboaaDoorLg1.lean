/- Logs: entries, places; placed, rising, right, last. -/
import Derived.Test.YtdbehejbeioboaaDoorRkZ2
import Derived.Test.YtdbehejbeioboaaDoorOpR
import Derived.Test.YtdbehejbeioboaaDoorTab
namespace Go.Proofs.YtdbehejbeioboaaDoor
open Go.RowKit
open Asn (pt row rb)
set_option linter.unusedVariables false
set_option linter.unusedSimpArgs false
--@use N

/-- an entry: its term, its kind, its bytes and where they lie -/
abbrev Em := Nat × Int × Dt
/-- what an entry says -/
abbrev En := Nat × Int × List UInt8
abbrev At := Nat × Nat
def emc (m : Em) : List Value := [.int .u64 (m.1 : Int), .int .i64 m.2.1, .slice m.2.2.1 m.2.2.2.2.length m.2.2.2.1]
def emv (m : Em) : En := (m.1, m.2.1, m.2.2.2.2)
def atc (a : At) : List Value := [.int .u64 (a.1 : Int), .int .u64 (a.2 : Int)]
def lgc (a : At) (A : Option Addr) (n c : Nat) : List Value := [.int .u64 (a.1 : Int), .int .u64 (a.2 : Int), .slice A n c]
theorem emc_len (m : Em) : (emc m).length = 3 := rfl
theorem emc_one (m : Em) : ∀ u ∈ emc m, u.oneCell' = true := by simp [emc, Value.oneCell']
theorem atc_one (a : At) : ∀ u ∈ atc a, u.oneCell' = true := by simp [atc, Value.oneCell']
theorem lgc_one (a : At) (A : Option Addr) (n c : Nat) : ∀ u ∈ lgc a A n c, u.oneCell' = true := by simp [lgc, Value.oneCell']
theorem em_zero : ti46.zero = .agg (emc (0, 0, none, 0, [])).toArray := by kernel_rfl
theorem at_zero : ti24.zero = .agg (atc (0, 0)).toArray := by kernel_rfl
theorem lg_zero : ti55.zero = .agg (lgc (0, 0) none 0 0).toArray := by kernel_rfl
theorem at_built0 : Tryd.prog.built 24 [] = some (atc (0, 0)).toArray := by kernel_rfl
theorem at_built2 (i t : Nat) : Tryd.prog.built 24 [(0, .int .u64 (i : Int)), (1, .int .u64 (t : Int))] = some (atc (i, t)).toArray := by kernel_rfl
theorem lg_built2 (a : At) (A : Option Addr) (n c : Nat) : Tryd.prog.built 55 [(0, .agg (atc a).toArray), (1, .slice A n c)] = some (lgc a A n c).toArray := by kernel_rfl
section
variable {n : Nat} {w0 : World} {M : Nat → Prop} {T : Slots} {H : List Asn} {dd : Option Tmp} {tt : TypeId} {pos : String} {af : Array Edge} {g : Option (Nat × Bool)} {x y : Operand}
theorem T_eqAt {u : TypeId} {a b : At} {r : Bool} (hx : oget T x = some (.agg (atc a).toArray)) (hy : oget T y = some (.agg (atc b).toArray)) (hr : decide (a = b) = r) :
    Tk Tryd.prog n w0 M T H ⟨dd, .binOp .eql 24 x y u, tt, pos, af, g⟩ (.bool (r)) := by
  refine T_eqS (r := r) hx hy (s := 24) (i := ti24) rfl rfl (by kernel_rfl) (by kernel_rfl) rfl ?_
  subst hr
  obtain ⟨a1, a2⟩ := a
  obtain ⟨b1, b2⟩ := b
  show ((a1 : Int) == (b1 : Int) && ((a2 : Int) == (b2 : Int) && true)) = _
  rw [Bool.and_true, Bool.eq_iff_iff]
  simp
  omega
theorem T_neAt {u : TypeId} {a b : At} {r : Bool} (hx : oget T x = some (.agg (atc a).toArray)) (hy : oget T y = some (.agg (atc b).toArray)) (hr : decide (a = b) = r) :
    Tk Tryd.prog n w0 M T H ⟨dd, .binOp .neq 24 x y u, tt, pos, af, g⟩ (.bool (!r)) := by
  refine T_neS (r := r) hx hy (s := 24) (i := ti24) rfl rfl (by kernel_rfl) (by kernel_rfl) rfl ?_
  subst hr
  obtain ⟨a1, a2⟩ := a
  obtain ⟨b1, b2⟩ := b
  show ((a1 : Int) == (b1 : Int) && ((a2 : Int) == (b2 : Int) && true)) = _
  rw [Bool.and_true, Bool.eq_iff_iff]
  simp
  omega
end
/-- may an entry be? -/
def placedB (e : En) : Bool := if e.2.1 = 1 then decide (0 < e.1) && decide (e.2.2.length = 0) else if e.2.1 = 2 ∨ e.2.1 = 3 then decide (0 < e.1) && decide (e.2.2.length ≤ 1024) else false
/-- the term of the last entry -/
def lastT (l : List En) (t : Nat) : Nat := match l.getLast? with | some e => e.1 | none => t
/-- may entries be, and do their terms not fall? -/
def risingB : List En → Nat → Bool
  | [], _ => true
  | e :: l, t => placedB e && decide (t ≤ e.1) && risingB l e.1
def rightB (a : At) (l : List En) : Bool := (decide (a = (0, 0)) || (decide (0 < a.1) && decide (0 < a.2))) && decide (l.length ≤ 16) && decide (a.1 ≤ 18446744073709551614 - l.length) && risingB l a.2
def lastA (a : At) (l : List En) : At := (a.1 + l.length, lastT l a.2)
theorem lastT_app (l1 l2 : List En) (t : Nat) : lastT (l1 ++ l2) t = lastT l2 (lastT l1 t) := by
  unfold lastT
  rw [List.getLast?_append]
  cases l2.getLast? <;> rfl
theorem rising_app : ∀ (l1 l2 : List En) (t : Nat), risingB (l1 ++ l2) t = (risingB l1 t && risingB l2 (lastT l1 t))
  | [], l2, t => by simp [risingB, lastT]
  | e :: l1, l2, t => by
    have ih := rising_app l1 l2 e.1
    have e2 : lastT (e :: l1) t = lastT l1 e.1 := by
      have := lastT_app [e] l1 t
      exact this
    rw [List.cons_append, risingB, risingB, ih, e2, Bool.and_assoc, Bool.and_assoc, Bool.and_assoc]
theorem emv_take (Q : List Em) (j : Nat) (hj : j < Q.length) {m : Em} (hm : Q.getD j default = m) : (Q.take (j + 1)).map emv = (Q.take j).map emv ++ [emv m] := by
  subst hm
  rw [List.take_succ_eq_append_getElem hj, List.map_append]
  simp [List.getD, hj]
theorem emv_drop (Q : List Em) (j : Nat) (hj : j < Q.length) {m : Em} (hm : Q.getD j default = m) : Q.map emv = (Q.take j).map emv ++ emv m :: (Q.drop (j + 1)).map emv := by
  subst hm
  conv => lhs; rw [← List.take_append_drop j Q, List.drop_eq_getElem_cons hj]
  rw [List.map_append, List.map_cons]
  simp [List.getD, hj]
set_option maxRecDepth 100000 in
set_option maxHeartbeats 4000000 in
theorem placed_any (w : World) (m : Em) :
    Gives Tryd.prog 83 [.agg (emc m).toArray] [] w (X := Unit) (fun _ => .bool (placedB (emv m))) (fun _ => True) (fun _ => []) := by
  refine gives_S Tryd.func83 rfl Tryd.ntmps83 Tryd.results83 (by simp) (St.enter w) (fun B hB => ?_)
  obtain ⟨t, k, A, c, l⟩ := m
  obtain ⟨n, hn⟩ : ∃ n, l.length = n := ⟨_, rfl⟩
  have hp : placedB (emv (t, k, A, c, l)) = if k = 1 then decide (0 < t) && decide (n = 0) else if k = 2 ∨ k = 3 then decide (0 < t) && decide (n ≤ 1024) else false := by rw [← hn]; rfl
  rw [hp]at hB
  rw [show (emc (t, k, A, c, l)) = [.int .u64 (t : Int), .int .i64 k, .slice A n c] by rw [← hn]; rfl]
  by_cases h1 : k = 1
  · rw [if_pos h1] at hB
    by_cases h2 : 0 < t
    · by_cases h3 : n = 0
      · rw [decide_eq_true h2, decide_eq_true h3] at hB
        focus (refine S_seq rfl ?_; refine S_region rfl rfl ?_; (refine R_eff (E_boxa (cs := [.int .u64 (t : Int), .int .i64 k, .slice A n c]) rfl) ?_ rfl rfl; rintro _ _ ⟨b1, rfl, rfl⟩); refine R_p rfl ?_ rfl rfl; refine R_nil ?_; refine S_seq rfl ?_; refine S_seq rfl (S_region rfl rfl ?_); refine R_p rfl ?_ rfl rfl; refine R_take (T_load rfl rfl rfl rfl) ?_ rfl rfl; refine R_nil ?_; refine S_block rfl ?_; refine S_seq rfl (S_region rfl rfl ?_); refine R_take (T_decT rfl (by omega)) ?_ rfl rfl; refine R_p rfl ?_ rfl rfl; refine R_nil ?_; refine S_true rfl rfl ?_; refine S_seq rfl (S_region rfl rfl ?_); refine R_p rfl ?_ rfl rfl; refine R_take (T_load rfl rfl rfl rfl) ?_ rfl rfl; refine R_take (T_decT rfl (by omega)) ?_ rfl rfl; (iterate 2 refine R_p rfl ?_ rfl rfl); refine R_take (T_load rfl rfl rfl rfl) ?_ rfl rfl; refine R_p rfl ?_ rfl rfl; refine R_take (T_decT rfl (by omega)) ?_ rfl rfl; (iterate 2 refine R_p rfl ?_ rfl rfl); refine R_nil ?_)
        exact hB _ _ _ _ _ rfl rfl fun w' hS => ⟨(), rfl, trivial, hS.sublist (List.nil_sublist _)⟩
      · rw [decide_eq_true h2, decide_eq_false h3] at hB
        focus (refine S_seq rfl ?_; refine S_region rfl rfl ?_; (refine R_eff (E_boxa (cs := [.int .u64 (t : Int), .int .i64 k, .slice A n c]) rfl) ?_ rfl rfl; rintro _ _ ⟨b1, rfl, rfl⟩); refine R_p rfl ?_ rfl rfl; refine R_nil ?_; refine S_seq rfl ?_; refine S_seq rfl (S_region rfl rfl ?_); refine R_p rfl ?_ rfl rfl; refine R_take (T_load rfl rfl rfl rfl) ?_ rfl rfl; refine R_nil ?_; refine S_block rfl ?_; refine S_seq rfl (S_region rfl rfl ?_); refine R_take (T_decT rfl (by omega)) ?_ rfl rfl; refine R_p rfl ?_ rfl rfl; refine R_nil ?_; refine S_true rfl rfl ?_; refine S_seq rfl (S_region rfl rfl ?_); refine R_p rfl ?_ rfl rfl; refine R_take (T_load rfl rfl rfl rfl) ?_ rfl rfl; refine R_take (T_decT rfl (by omega)) ?_ rfl rfl; (iterate 2 refine R_p rfl ?_ rfl rfl); refine R_take (T_load rfl rfl rfl rfl) ?_ rfl rfl; refine R_p rfl ?_ rfl rfl; refine R_take (T_decF rfl (by omega)) ?_ rfl rfl; (iterate 2 refine R_p rfl ?_ rfl rfl); refine R_nil ?_)
        exact hB _ _ _ _ _ rfl rfl fun w' hS => ⟨(), rfl, trivial, hS.sublist (List.nil_sublist _)⟩
    · rw [decide_eq_false h2, Bool.false_and] at hB
      focus (refine S_seq rfl ?_; refine S_region rfl rfl ?_; (refine R_eff (E_boxa (cs := [.int .u64 (t : Int), .int .i64 k, .slice A n c]) rfl) ?_ rfl rfl; rintro _ _ ⟨b1, rfl, rfl⟩); refine R_p rfl ?_ rfl rfl; refine R_nil ?_; refine S_seq rfl ?_; refine S_seq rfl (S_region rfl rfl ?_); refine R_p rfl ?_ rfl rfl; refine R_take (T_load rfl rfl rfl rfl) ?_ rfl rfl; refine R_nil ?_; refine S_block rfl ?_; refine S_seq rfl (S_region rfl rfl ?_); refine R_take (T_decT rfl (by omega)) ?_ rfl rfl; refine R_p rfl ?_ rfl rfl; refine R_nil ?_; refine S_true rfl rfl ?_; refine S_seq rfl (S_region rfl rfl ?_); refine R_p rfl ?_ rfl rfl; refine R_take (T_load rfl rfl rfl rfl) ?_ rfl rfl; refine R_take (T_decF rfl (by omega)) ?_ rfl rfl; refine R_p rfl ?_ rfl rfl; (iterate 4 refine R_skip ?_ rfl rfl); (iterate 2 refine R_p rfl ?_ rfl rfl); refine R_nil ?_)
      exact hB _ _ _ _ _ rfl rfl fun w' hS => ⟨(), rfl, trivial, hS.sublist (List.nil_sublist _)⟩
  rw [if_neg h1] at hB
  by_cases h23 : k = 2 ∨ k = 3
  · rw [if_pos h23] at hB
    by_cases h2 : 0 < t
    · by_cases h3 : n ≤ 1024
      · rw [decide_eq_true h2, decide_eq_true h3] at hB
        by_cases h4 : k = 2
        · focus (refine S_seq rfl ?_; refine S_region rfl rfl ?_; (refine R_eff (E_boxa (cs := [.int .u64 (t : Int), .int .i64 k, .slice A n c]) rfl) ?_ rfl rfl; rintro _ _ ⟨b1, rfl, rfl⟩); refine R_p rfl ?_ rfl rfl; refine R_nil ?_; refine S_seq rfl ?_; refine S_seq rfl (S_region rfl rfl ?_); refine R_p rfl ?_ rfl rfl; refine R_take (T_load rfl rfl rfl rfl) ?_ rfl rfl; refine R_nil ?_; refine S_block rfl ?_; refine S_seq rfl (S_region rfl rfl ?_); refine R_take (T_decF rfl (by omega)) ?_ rfl rfl; refine R_p rfl ?_ rfl rfl; refine R_nil ?_; refine S_false rfl rfl ?_; refine S_seq rfl ?_; refine S_seq rfl (S_region rfl rfl ?_); refine R_take (T_decT rfl (by omega)) ?_ rfl rfl; refine R_p rfl ?_ rfl rfl; refine R_nil ?_; refine S_true rfl rfl ?_; refine S_skip rfl ?_; refine S_true rfl rfl ?_; refine S_seq rfl (S_region rfl rfl ?_); refine R_p rfl ?_ rfl rfl; refine R_take (T_load rfl rfl rfl rfl) ?_ rfl rfl; refine R_take (T_decT rfl (by omega)) ?_ rfl rfl; (iterate 2 refine R_p rfl ?_ rfl rfl); refine R_take (T_load rfl rfl rfl rfl) ?_ rfl rfl; refine R_p rfl ?_ rfl rfl; refine R_take (T_decT rfl (by omega)) ?_ rfl rfl; (iterate 2 refine R_p rfl ?_ rfl rfl); refine R_nil ?_)
          exact hB _ _ _ _ _ rfl rfl fun w' hS => ⟨(), rfl, trivial, hS.sublist (List.nil_sublist _)⟩
        · focus (refine S_seq rfl ?_; refine S_region rfl rfl ?_; (refine R_eff (E_boxa (cs := [.int .u64 (t : Int), .int .i64 k, .slice A n c]) rfl) ?_ rfl rfl; rintro _ _ ⟨b1, rfl, rfl⟩); refine R_p rfl ?_ rfl rfl; refine R_nil ?_; refine S_seq rfl ?_; refine S_seq rfl (S_region rfl rfl ?_); refine R_p rfl ?_ rfl rfl; refine R_take (T_load rfl rfl rfl rfl) ?_ rfl rfl; refine R_nil ?_; refine S_block rfl ?_; refine S_seq rfl (S_region rfl rfl ?_); refine R_take (T_decF rfl (by omega)) ?_ rfl rfl; refine R_p rfl ?_ rfl rfl; refine R_nil ?_; refine S_false rfl rfl ?_; refine S_seq rfl ?_; refine S_seq rfl (S_region rfl rfl ?_); refine R_take (T_decF rfl (by omega)) ?_ rfl rfl; refine R_p rfl ?_ rfl rfl; refine R_nil ?_; refine S_false rfl rfl ?_; refine S_region rfl rfl ?_; refine R_take (T_decT rfl (by omega)) ?_ rfl rfl; refine R_p rfl ?_ rfl rfl; refine R_nil ?_; refine S_true rfl rfl ?_; refine S_seq rfl (S_region rfl rfl ?_); refine R_p rfl ?_ rfl rfl; refine R_take (T_load rfl rfl rfl rfl) ?_ rfl rfl; refine R_take (T_decT rfl (by omega)) ?_ rfl rfl; (iterate 2 refine R_p rfl ?_ rfl rfl); refine R_take (T_load rfl rfl rfl rfl) ?_ rfl rfl; refine R_p rfl ?_ rfl rfl; refine R_take (T_decT rfl (by omega)) ?_ rfl rfl; (iterate 2 refine R_p rfl ?_ rfl rfl); refine R_nil ?_)
          exact hB _ _ _ _ _ rfl rfl fun w' hS => ⟨(), rfl, trivial, hS.sublist (List.nil_sublist _)⟩
      · rw [decide_eq_true h2, decide_eq_false h3] at hB
        by_cases h4 : k = 2
        · focus (refine S_seq rfl ?_; refine S_region rfl rfl ?_; (refine R_eff (E_boxa (cs := [.int .u64 (t : Int), .int .i64 k, .slice A n c]) rfl) ?_ rfl rfl; rintro _ _ ⟨b1, rfl, rfl⟩); refine R_p rfl ?_ rfl rfl; refine R_nil ?_; refine S_seq rfl ?_; refine S_seq rfl (S_region rfl rfl ?_); refine R_p rfl ?_ rfl rfl; refine R_take (T_load rfl rfl rfl rfl) ?_ rfl rfl; refine R_nil ?_; refine S_block rfl ?_; refine S_seq rfl (S_region rfl rfl ?_); refine R_take (T_decF rfl (by omega)) ?_ rfl rfl; refine R_p rfl ?_ rfl rfl; refine R_nil ?_; refine S_false rfl rfl ?_; refine S_seq rfl ?_; refine S_seq rfl (S_region rfl rfl ?_); refine R_take (T_decT rfl (by omega)) ?_ rfl rfl; refine R_p rfl ?_ rfl rfl; refine R_nil ?_; refine S_true rfl rfl ?_; refine S_skip rfl ?_; refine S_true rfl rfl ?_; refine S_seq rfl (S_region rfl rfl ?_); refine R_p rfl ?_ rfl rfl; refine R_take (T_load rfl rfl rfl rfl) ?_ rfl rfl; refine R_take (T_decT rfl (by omega)) ?_ rfl rfl; (iterate 2 refine R_p rfl ?_ rfl rfl); refine R_take (T_load rfl rfl rfl rfl) ?_ rfl rfl; refine R_p rfl ?_ rfl rfl; refine R_take (T_decF rfl (by omega)) ?_ rfl rfl; (iterate 2 refine R_p rfl ?_ rfl rfl); refine R_nil ?_)
          exact hB _ _ _ _ _ rfl rfl fun w' hS => ⟨(), rfl, trivial, hS.sublist (List.nil_sublist _)⟩
        · focus (refine S_seq rfl ?_; refine S_region rfl rfl ?_; (refine R_eff (E_boxa (cs := [.int .u64 (t : Int), .int .i64 k, .slice A n c]) rfl) ?_ rfl rfl; rintro _ _ ⟨b1, rfl, rfl⟩); refine R_p rfl ?_ rfl rfl; refine R_nil ?_; refine S_seq rfl ?_; refine S_seq rfl (S_region rfl rfl ?_); refine R_p rfl ?_ rfl rfl; refine R_take (T_load rfl rfl rfl rfl) ?_ rfl rfl; refine R_nil ?_; refine S_block rfl ?_; refine S_seq rfl (S_region rfl rfl ?_); refine R_take (T_decF rfl (by omega)) ?_ rfl rfl; refine R_p rfl ?_ rfl rfl; refine R_nil ?_; refine S_false rfl rfl ?_; refine S_seq rfl ?_; refine S_seq rfl (S_region rfl rfl ?_); refine R_take (T_decF rfl (by omega)) ?_ rfl rfl; refine R_p rfl ?_ rfl rfl; refine R_nil ?_; refine S_false rfl rfl ?_; refine S_region rfl rfl ?_; refine R_take (T_decT rfl (by omega)) ?_ rfl rfl; refine R_p rfl ?_ rfl rfl; refine R_nil ?_; refine S_true rfl rfl ?_; refine S_seq rfl (S_region rfl rfl ?_); refine R_p rfl ?_ rfl rfl; refine R_take (T_load rfl rfl rfl rfl) ?_ rfl rfl; refine R_take (T_decT rfl (by omega)) ?_ rfl rfl; (iterate 2 refine R_p rfl ?_ rfl rfl); refine R_take (T_load rfl rfl rfl rfl) ?_ rfl rfl; refine R_p rfl ?_ rfl rfl; refine R_take (T_decF rfl (by omega)) ?_ rfl rfl; (iterate 2 refine R_p rfl ?_ rfl rfl); refine R_nil ?_)
          exact hB _ _ _ _ _ rfl rfl fun w' hS => ⟨(), rfl, trivial, hS.sublist (List.nil_sublist _)⟩
    · rw [decide_eq_false h2, Bool.false_and] at hB
      by_cases h4 : k = 2
      · focus (refine S_seq rfl ?_; refine S_region rfl rfl ?_; (refine R_eff (E_boxa (cs := [.int .u64 (t : Int), .int .i64 k, .slice A n c]) rfl) ?_ rfl rfl; rintro _ _ ⟨b1, rfl, rfl⟩); refine R_p rfl ?_ rfl rfl; refine R_nil ?_; refine S_seq rfl ?_; refine S_seq rfl (S_region rfl rfl ?_); refine R_p rfl ?_ rfl rfl; refine R_take (T_load rfl rfl rfl rfl) ?_ rfl rfl; refine R_nil ?_; refine S_block rfl ?_; refine S_seq rfl (S_region rfl rfl ?_); refine R_take (T_decF rfl (by omega)) ?_ rfl rfl; refine R_p rfl ?_ rfl rfl; refine R_nil ?_; refine S_false rfl rfl ?_; refine S_seq rfl ?_; refine S_seq rfl (S_region rfl rfl ?_); refine R_take (T_decT rfl (by omega)) ?_ rfl rfl; refine R_p rfl ?_ rfl rfl; refine R_nil ?_; refine S_true rfl rfl ?_; refine S_skip rfl ?_; refine S_true rfl rfl ?_; refine S_seq rfl (S_region rfl rfl ?_); refine R_p rfl ?_ rfl rfl; refine R_take (T_load rfl rfl rfl rfl) ?_ rfl rfl; refine R_take (T_decF rfl (by omega)) ?_ rfl rfl; refine R_p rfl ?_ rfl rfl; (iterate 4 refine R_skip ?_ rfl rfl); (iterate 2 refine R_p rfl ?_ rfl rfl); refine R_nil ?_)
        exact hB _ _ _ _ _ rfl rfl fun w' hS => ⟨(), rfl, trivial, hS.sublist (List.nil_sublist _)⟩
      · focus (refine S_seq rfl ?_; refine S_region rfl rfl ?_; (refine R_eff (E_boxa (cs := [.int .u64 (t : Int), .int .i64 k, .slice A n c]) rfl) ?_ rfl rfl; rintro _ _ ⟨b1, rfl, rfl⟩); refine R_p rfl ?_ rfl rfl; refine R_nil ?_; refine S_seq rfl ?_; refine S_seq rfl (S_region rfl rfl ?_); refine R_p rfl ?_ rfl rfl; refine R_take (T_load rfl rfl rfl rfl) ?_ rfl rfl; refine R_nil ?_; refine S_block rfl ?_; refine S_seq rfl (S_region rfl rfl ?_); refine R_take (T_decF rfl (by omega)) ?_ rfl rfl; refine R_p rfl ?_ rfl rfl; refine R_nil ?_; refine S_false rfl rfl ?_; refine S_seq rfl ?_; refine S_seq rfl (S_region rfl rfl ?_); refine R_take (T_decF rfl (by omega)) ?_ rfl rfl; refine R_p rfl ?_ rfl rfl; refine R_nil ?_; refine S_false rfl rfl ?_; refine S_region rfl rfl ?_; refine R_take (T_decT rfl (by omega)) ?_ rfl rfl; refine R_p rfl ?_ rfl rfl; refine R_nil ?_; refine S_true rfl rfl ?_; refine S_seq rfl (S_region rfl rfl ?_); refine R_p rfl ?_ rfl rfl; refine R_take (T_load rfl rfl rfl rfl) ?_ rfl rfl; refine R_take (T_decF rfl (by omega)) ?_ rfl rfl; refine R_p rfl ?_ rfl rfl; (iterate 4 refine R_skip ?_ rfl rfl); (iterate 2 refine R_p rfl ?_ rfl rfl); refine R_nil ?_)
        exact hB _ _ _ _ _ rfl rfl fun w' hS => ⟨(), rfl, trivial, hS.sublist (List.nil_sublist _)⟩
  · rw [if_neg h23] at hB
    focus (refine S_seq rfl ?_; refine S_region rfl rfl ?_; (refine R_eff (E_boxa (cs := [.int .u64 (t : Int), .int .i64 k, .slice A n c]) rfl) ?_ rfl rfl; rintro _ _ ⟨b1, rfl, rfl⟩); refine R_p rfl ?_ rfl rfl; refine R_nil ?_; refine S_seq rfl ?_; refine S_seq rfl (S_region rfl rfl ?_); refine R_p rfl ?_ rfl rfl; refine R_take (T_load rfl rfl rfl rfl) ?_ rfl rfl; refine R_nil ?_; refine S_block rfl ?_; refine S_seq rfl (S_region rfl rfl ?_); refine R_take (T_decF rfl (by omega)) ?_ rfl rfl; refine R_p rfl ?_ rfl rfl; refine R_nil ?_; refine S_false rfl rfl ?_; refine S_seq rfl ?_; refine S_seq rfl (S_region rfl rfl ?_); refine R_take (T_decF rfl (by omega)) ?_ rfl rfl; refine R_p rfl ?_ rfl rfl; refine R_nil ?_; refine S_false rfl rfl ?_; refine S_region rfl rfl ?_; refine R_take (T_decF rfl (by omega)) ?_ rfl rfl; refine R_p rfl ?_ rfl rfl; refine R_nil ?_; refine S_false rfl rfl ?_; refine S_skip rfl ?_; refine RS_blk ?_; refine S_seq rfl (S_region rfl rfl ?_); refine R_p rfl ?_ rfl rfl; refine R_nil ?_)
    exact hB _ _ _ _ _ rfl rfl fun w' hS => ⟨(), rfl, trivial, hS.sublist (List.nil_sublist _)⟩
set_option maxRecDepth 100000 in
set_option maxHeartbeats 4000000 in
theorem rising_any (w : World) (A : Option Addr) (c : Nat) (Q : List Em) (t : Nat) (h : Rd w All 3 A Q.length (cellsL emc Q)) (hn : Q.length ≤ 100000) :
    Gives Tryd.prog 79 [.slice A Q.length c, .int .u64 (t : Int)] [] w (X := Unit) (fun _ => .bool (risingB (Q.map emv) t)) (fun _ => True) (fun _ => []) := by
  refine gives_S Tryd.func79 rfl Tryd.ntmps79 Tryd.results79 (by simp) (St.enter w) (fun B hB => ?_)
  have hne : 0 < Q.length → A ≠ none := fun h0 => by obtain ⟨ad, rfl, _⟩ := h.2 (by omega); simp
  focus (refine S_seq rfl ?_; refine S_region rfl rfl ?_; refine R_p rfl ?_ rfl rfl; refine R_nil ?_; refine S_seq rfl ?_; refine S_seq rfl (S_region rfl rfl ?_); (iterate 3 refine R_p rfl ?_ rfl rfl); refine R_nil ?_; refine S_block rfl ?_)
  refine S_loop (X := Nat × Nat) (fun x => [(1, .int .u64 (x.2 : Int)), (7, .slice A Q.length c), (8, .int .i64 (Q.length : Int)), (9, .int .i64 (x.1 : Int))]) (fun _ => []) (fun x => x.1 ≤ Q.length ∧ risingB ((Q.take x.1).map emv) t = true ∧ lastT ((Q.take x.1).map emv) t = x.2) (fun x => Q.length - x.1) rfl (0, t) ⟨Nat.zero_le _, rfl, rfl⟩ (Sub.cons rfl (Sub.cons rfl (Sub.cons rfl (Sub.cons rfl Sub.nil)))) sub_st ?_
  rintro ⟨j, u⟩ ⟨hj, hok, hu⟩ J hJ
  dsimp only at hj hok hu ⊢
  rcases Nat.lt_or_ge j Q.length with hjl | hjl
  · have hne := hne (by omega)
    have hat := cellsL_at (f := emc) emc_len Q default j hjl
    obtain ⟨m, hm⟩ : ∃ m, Q.getD j default = m := ⟨_, rfl⟩
    rw [hm] at hat
    have htk := emv_take Q j hjl hm
    have hdr := emv_drop Q j hjl hm
    obtain ⟨r, hr⟩ : ∃ r, placedB (emv m) = r := ⟨_, rfl⟩
    have hfl : r = false ∨ m.1 < u → risingB (Q.map emv) t = false := fun h => by
      rw [hdr, rising_app, hok, hu, risingB, hr]
      rcases h with h | h
      · rw [h]; rfl
      · rw [decide_eq_false (by show ¬ u ≤ m.1; omega)]; simp
    have hnx : r = true → u ≤ m.1 → risingB ((Q.take (j + 1)).map emv) t = true ∧ lastT ((Q.take (j + 1)).map emv) t = m.1 := fun h1 h2 => by
      rw [htk, rising_app, lastT_app, hok, hu, risingB, risingB, hr, h1]
      exact ⟨by simp; exact h2, rfl⟩
    cases r
    · rw [hfl (.inl rfl)] at hB
      focus (refine S_seq rfl ?_; refine S_region rfl rfl ?_; refine R_take (T_decT rfl (by omega)) ?_ rfl rfl; refine R_nil ?_; refine S_seq rfl ?_; refine S_true rfl rfl ?_; refine S_skip rfl ?_; refine S_seq rfl ?_; refine S_block rfl ?_; refine S_seq rfl (S_region rfl rfl ?_); refine R_take (T_ixM (sz := 3) rfl rfl rfl rfl rfl rfl hne hjl) ?_ rfl rfl; refine R_take (T_lda (ds := emc m) rfl rfl rfl (Srd.old h (fun k _ => noOwns k)) rfl (by omega) hat) ?_ rfl rfl; (refine R_eff (E_alloca rfl em_zero) ?_ rfl rfl; rintro _ _ ⟨b6, rfl, rfl⟩); (refine R_eff0 (E_storew (cs := emc (0, 0, none, 0, [])) (ds := emc m) rfl rfl rfl rfl (emc_one _) rfl) ?_ rfl; rintro _ _ rfl); refine R_nil ?_; refine S_seq rfl ?_; refine S_seq rfl (S_region rfl rfl ?_); refine R_take (T_loads (ds := emc m) rfl rfl rfl rfl rfl) ?_ rfl rfl; ((refine R_eff (E_hv0 (f := 83) ⟨_, Tryd.func83, rfl, by kernel_rfl⟩ (fun w hS => placed_any w m) rfl rfl (fun _ => rfl)) ?_ rfl rfl; rintro _ _ ⟨_, rfl, _, rfl⟩); rw [hr]); refine R_take (T_not rfl) ?_ rfl rfl; refine R_take (T_decT rfl (by omega)) ?_ rfl rfl; (iterate 4 refine R_skip ?_ rfl rfl); refine R_take (T_decT rfl (by omega)) ?_ rfl rfl; refine R_nil ?_; refine S_true rfl rfl ?_; refine S_seq rfl (S_region rfl rfl ?_); refine R_p rfl ?_ rfl rfl; refine R_nil ?_)
      exact hB _ _ _ _ _ rfl rfl fun w' hS => ⟨(), rfl, trivial, hS.sublist (List.nil_sublist _)⟩
    by_cases hmu : m.1 < u
    · rw [hfl (.inr hmu)] at hB
      focus (refine S_seq rfl ?_; refine S_region rfl rfl ?_; refine R_take (T_decT rfl (by omega)) ?_ rfl rfl; refine R_nil ?_; refine S_seq rfl ?_; refine S_true rfl rfl ?_; refine S_skip rfl ?_; refine S_seq rfl ?_; refine S_block rfl ?_; refine S_seq rfl (S_region rfl rfl ?_); refine R_take (T_ixM (sz := 3) rfl rfl rfl rfl rfl rfl hne hjl) ?_ rfl rfl; refine R_take (T_lda (ds := emc m) rfl rfl rfl (Srd.old h (fun k _ => noOwns k)) rfl (by omega) hat) ?_ rfl rfl; (refine R_eff (E_alloca rfl em_zero) ?_ rfl rfl; rintro _ _ ⟨b6, rfl, rfl⟩); (refine R_eff0 (E_storew (cs := emc (0, 0, none, 0, [])) (ds := emc m) rfl rfl rfl rfl (emc_one _) rfl) ?_ rfl; rintro _ _ rfl); refine R_nil ?_; refine S_seq rfl ?_; refine S_seq rfl (S_region rfl rfl ?_); refine R_take (T_loads (ds := emc m) rfl rfl rfl rfl rfl) ?_ rfl rfl; ((refine R_eff (E_hv0 (f := 83) ⟨_, Tryd.func83, rfl, by kernel_rfl⟩ (fun w hS => placed_any w m) rfl rfl (fun _ => rfl)) ?_ rfl rfl; rintro _ _ ⟨_, rfl, _, rfl⟩); rw [hr]); refine R_take (T_not rfl) ?_ rfl rfl; (iterate 2 refine R_p rfl ?_ rfl rfl); refine R_take (T_load rfl rfl rfl rfl) ?_ rfl rfl; refine R_p rfl ?_ rfl rfl; refine R_take (T_decT rfl (by omega)) ?_ rfl rfl; refine R_take (T_decT rfl (by omega)) ?_ rfl rfl; refine R_nil ?_; refine S_true rfl rfl ?_; refine S_seq rfl (S_region rfl rfl ?_); refine R_p rfl ?_ rfl rfl; refine R_nil ?_)
      exact hB _ _ _ _ _ rfl rfl fun w' hS => ⟨(), rfl, trivial, hS.sublist (List.nil_sublist _)⟩
    · focus (refine S_seq rfl ?_; refine S_region rfl rfl ?_; refine R_take (T_decT rfl (by omega)) ?_ rfl rfl; refine R_nil ?_; refine S_seq rfl ?_; refine S_true rfl rfl ?_; refine S_skip rfl ?_; refine S_seq rfl ?_; refine S_block rfl ?_; refine S_seq rfl (S_region rfl rfl ?_); refine R_take (T_ixM (sz := 3) rfl rfl rfl rfl rfl rfl hne hjl) ?_ rfl rfl; refine R_take (T_lda (ds := emc m) rfl rfl rfl (Srd.old h (fun k _ => noOwns k)) rfl (by omega) hat) ?_ rfl rfl; (refine R_eff (E_alloca rfl em_zero) ?_ rfl rfl; rintro _ _ ⟨b6, rfl, rfl⟩); (refine R_eff0 (E_storew (cs := emc (0, 0, none, 0, [])) (ds := emc m) rfl rfl rfl rfl (emc_one _) rfl) ?_ rfl; rintro _ _ rfl); refine R_nil ?_; refine S_seq rfl ?_; refine S_seq rfl (S_region rfl rfl ?_); refine R_take (T_loads (ds := emc m) rfl rfl rfl rfl rfl) ?_ rfl rfl; ((refine R_eff (E_hv0 (f := 83) ⟨_, Tryd.func83, rfl, by kernel_rfl⟩ (fun w hS => placed_any w m) rfl rfl (fun _ => rfl)) ?_ rfl rfl; rintro _ _ ⟨_, rfl, _, rfl⟩); rw [hr]); refine R_take (T_not rfl) ?_ rfl rfl; (iterate 2 refine R_p rfl ?_ rfl rfl); refine R_take (T_load rfl rfl rfl rfl) ?_ rfl rfl; refine R_p rfl ?_ rfl rfl; refine R_take (T_decF rfl (by omega)) ?_ rfl rfl; refine R_p rfl ?_ rfl rfl; refine R_nil ?_; refine S_false rfl rfl ?_; refine S_skip rfl ?_; refine S_region rfl rfl ?_; refine R_p rfl ?_ rfl rfl; refine R_take (T_load rfl rfl rfl rfl) ?_ rfl rfl; refine R_p rfl ?_ rfl rfl; refine R_nil ?_; refine RS_blk ?_; refine S_region rfl rfl ?_; refine R_take (T_addN rfl rfl (by unfold fits; omega)) ?_ rfl rfl; refine R_p rfl ?_ rfl rfl; refine R_nil ?_)
      exact hJ (j + 1, m.1) _ _ ⟨by show j + 1 ≤ _; omega, hnx rfl (by omega)⟩ (Sub.cons rfl (Sub.cons rfl (Sub.cons rfl (Sub.cons rfl Sub.nil)))) sub_st (by show Q.length - (j + 1) < _; omega)
  have hjn : j = Q.length := by omega
  subst hjn
  rw [List.take_length] at hok
  rw [hok] at hB
  focus (refine S_seq rfl ?_; refine S_region rfl rfl ?_; refine R_take (T_decF rfl (by omega)) ?_ rfl rfl; refine R_nil ?_; refine S_seq rfl ?_; refine S_false rfl rfl ?_; refine S_exit rfl rfl ?_; refine S_seq rfl (S_region rfl rfl ?_); refine R_p rfl ?_ rfl rfl; refine R_nil ?_)
  exact hB _ _ _ _ _ rfl rfl fun w' hS => ⟨(), rfl, trivial, hS.sublist (List.nil_sublist _)⟩
end Go.Proofs.YtdbehejbeioboaaDoor
