/- Logs: right, last, Last, Newer, Check. -/
import Derived.Test.YtdbehejbeioboaaDoorLg1
namespace Go.Proofs.YtdbehejbeioboaaDoor
open Go.RowKit
open Asn (pt row rb)
set_option linter.unusedVariables false
set_option linter.unusedSimpArgs false
--@use N

def baseB (a : At) : Bool := decide (a = (0, 0)) || (decide (0 < a.1) && decide (0 < a.2))
theorem rightB_eq (a : At) (l : List En) : rightB a l = (baseB a && decide (l.length ≤ 16) && decide (a.1 ≤ 18446744073709551614 - l.length) && risingB l a.2) := rfl
theorem right_fits {a : At} {l : List En} (h : rightB a l = true) : l.length ≤ 16 ∧ a.1 + l.length ≤ 18446744073709551614 := by
  rw [rightB_eq, Bool.and_eq_true, Bool.and_eq_true, Bool.and_eq_true, decide_eq_true_eq, decide_eq_true_eq] at h
  omega
theorem lastT_at (Q : List Em) (t : Nat) (h : 0 < Q.length) : lastT (Q.map emv) t = (Q.getD (Q.length - 1) default).1 := by
  have e : Q = Q.take (Q.length - 1) ++ [Q.getD (Q.length - 1) default] := by
    have := List.take_succ_eq_append_getElem (l := Q) (i := Q.length - 1) (by omega)
    rw [show Q.length - 1 + 1 = Q.length by omega, List.take_length] at this
    simpa [List.getD, show Q.length - 1 < Q.length by omega] using this
  conv => lhs; rw [e]
  rw [List.map_append, lastT_app]
  rfl
set_option maxRecDepth 100000 in
set_option maxHeartbeats 4000000 in
theorem right_any (w : World) (a : At) (A : Option Addr) (c : Nat) (Q : List Em) (h : Rd w All 3 A Q.length (cellsL emc Q)) (hn : Q.length ≤ 100000) :
    Gives Tryd.prog 59 [.agg (lgc a A Q.length c).toArray] [] w (X := Unit) (fun _ => .bool (rightB a (Q.map emv))) (fun _ => True) (fun _ => []) := by
  refine gives_S Tryd.func59 rfl Tryd.ntmps59 Tryd.results59 (by simp) (St.enter w) (fun B hB => ?_)
  obtain ⟨i, t⟩ := a
  have hq : rightB (i, t) (Q.map emv) = (baseB (i, t) && decide (Q.length ≤ 16) && decide (i ≤ 18446744073709551614 - Q.length) && risingB (Q.map emv) t) := by rw [rightB_eq, List.length_map]
  rw [hq] at hB
  obtain ⟨r, hr⟩ : ∃ r, risingB (Q.map emv) t = r := ⟨_, rfl⟩
  rw [hr] at hB

  by_cases hz : (i, t) = ((0, 0) : At)
  · have hb : baseB (i, t) = true := by rw [baseB, decide_eq_true hz]; rfl
    have hz := decide_eq_true hz
    by_cases h16 : Q.length ≤ 16
    · by_cases hi : i ≤ 18446744073709551614 - Q.length
      · rw [hb, decide_eq_true h16, decide_eq_true hi, Bool.and_self, Bool.and_self, Bool.true_and] at hB
        focus (refine S_seq rfl ?_; refine S_region rfl rfl ?_; (refine R_eff (E_boxa (cs := lgc (i, t) A Q.length c) rfl) ?_ rfl rfl; rintro _ _ ⟨b1, rfl, rfl⟩); refine R_p rfl ?_ rfl rfl; refine R_nil (S_seq rfl (S_region rfl rfl ?_)); refine R_p rfl ?_ rfl rfl; refine R_take (T_loads (ds := atc (i, t)) rfl rfl rfl rfl rfl) ?_ rfl rfl; refine R_take (T_build0 at_built0) ?_ rfl rfl; refine R_take (T_eqAt (a := (i, t)) (b := (0, 0)) rfl rfl hz) ?_ rfl rfl; refine R_p rfl ?_ rfl rfl; refine R_nil (S_seq rfl (S_region rfl rfl ?_)); (iterate 2 refine R_p rfl ?_ rfl rfl); (iterate 10 refine R_skip ?_ rfl rfl); (iterate 2 refine R_p rfl ?_ rfl rfl); refine R_nil (S_seq rfl (S_region rfl rfl ?_)); (iterate 3 refine R_p rfl ?_ rfl rfl); refine R_take (T_load rfl rfl rfl rfl) ?_ rfl rfl; refine R_p rfl ?_ rfl rfl; refine R_take (T_decT rfl (by omega)) ?_ rfl rfl; (iterate 4 refine R_p rfl ?_ rfl rfl); refine R_take (T_load rfl rfl rfl rfl) ?_ rfl rfl; refine R_p rfl ?_ rfl rfl; refine R_take (T_load rfl rfl rfl rfl) ?_ rfl rfl; refine R_p rfl ?_ rfl rfl; refine R_take (T_convf rfl rfl rfl rfl (by unfold fits; omega)) ?_ rfl rfl; refine R_take (T_subN rfl rfl (by omega) (by unfold fits; omega)) ?_ rfl rfl; refine R_take (T_decT rfl (by omega)) ?_ rfl rfl; (iterate 3 refine R_p rfl ?_ rfl rfl); refine R_take (T_load rfl rfl rfl rfl) ?_ rfl rfl; (iterate 2 refine R_p rfl ?_ rfl rfl); refine R_take (T_load rfl rfl rfl rfl) ?_ rfl rfl; ((refine R_eff (E_hv0 (f := 79) ⟨_, Tryd.func79, rfl, by kernel_rfl⟩ (fun w hS => rising_any w A c Q t ((Srd.old h (fun k _ => noOwns k)).rd w hS) hn) rfl rfl (fun _ => rfl)) ?_ rfl rfl; rintro _ _ ⟨_, rfl, _, rfl⟩); rw [hr]); (iterate 2 refine R_p rfl ?_ rfl rfl); refine R_nil ?_)
        exact hB _ _ _ _ _ rfl rfl fun w' hS => ⟨(), rfl, trivial, hS.sublist (List.nil_sublist _)⟩
      · rw [hb, decide_eq_true h16, decide_eq_false hi, Bool.and_false, Bool.false_and] at hB
        focus (refine S_seq rfl ?_; refine S_region rfl rfl ?_; (refine R_eff (E_boxa (cs := lgc (i, t) A Q.length c) rfl) ?_ rfl rfl; rintro _ _ ⟨b1, rfl, rfl⟩); refine R_p rfl ?_ rfl rfl; refine R_nil (S_seq rfl (S_region rfl rfl ?_)); refine R_p rfl ?_ rfl rfl; refine R_take (T_loads (ds := atc (i, t)) rfl rfl rfl rfl rfl) ?_ rfl rfl; refine R_take (T_build0 at_built0) ?_ rfl rfl; refine R_take (T_eqAt (a := (i, t)) (b := (0, 0)) rfl rfl hz) ?_ rfl rfl; refine R_p rfl ?_ rfl rfl; refine R_nil (S_seq rfl (S_region rfl rfl ?_)); (iterate 2 refine R_p rfl ?_ rfl rfl); (iterate 10 refine R_skip ?_ rfl rfl); (iterate 2 refine R_p rfl ?_ rfl rfl); refine R_nil (S_seq rfl (S_region rfl rfl ?_)); (iterate 3 refine R_p rfl ?_ rfl rfl); refine R_take (T_load rfl rfl rfl rfl) ?_ rfl rfl; refine R_p rfl ?_ rfl rfl; refine R_take (T_decT rfl (by omega)) ?_ rfl rfl; (iterate 4 refine R_p rfl ?_ rfl rfl); refine R_take (T_load rfl rfl rfl rfl) ?_ rfl rfl; refine R_p rfl ?_ rfl rfl; refine R_take (T_load rfl rfl rfl rfl) ?_ rfl rfl; refine R_p rfl ?_ rfl rfl; refine R_take (T_convf rfl rfl rfl rfl (by unfold fits; omega)) ?_ rfl rfl; refine R_take (T_subN rfl rfl (by omega) (by unfold fits; omega)) ?_ rfl rfl; refine R_take (T_decF rfl (by omega)) ?_ rfl rfl; (iterate 2 refine R_p rfl ?_ rfl rfl); (iterate 6 refine R_skip ?_ rfl rfl); (iterate 2 refine R_p rfl ?_ rfl rfl); refine R_nil ?_)
        exact hB _ _ _ _ _ rfl rfl fun w' hS => ⟨(), rfl, trivial, hS.sublist (List.nil_sublist _)⟩
    · rw [hb, decide_eq_false h16, Bool.and_false, Bool.false_and, Bool.false_and] at hB
      focus (refine S_seq rfl ?_; refine S_region rfl rfl ?_; (refine R_eff (E_boxa (cs := lgc (i, t) A Q.length c) rfl) ?_ rfl rfl; rintro _ _ ⟨b1, rfl, rfl⟩); refine R_p rfl ?_ rfl rfl; refine R_nil (S_seq rfl (S_region rfl rfl ?_)); refine R_p rfl ?_ rfl rfl; refine R_take (T_loads (ds := atc (i, t)) rfl rfl rfl rfl rfl) ?_ rfl rfl; refine R_take (T_build0 at_built0) ?_ rfl rfl; refine R_take (T_eqAt (a := (i, t)) (b := (0, 0)) rfl rfl hz) ?_ rfl rfl; refine R_p rfl ?_ rfl rfl; refine R_nil (S_seq rfl (S_region rfl rfl ?_)); (iterate 2 refine R_p rfl ?_ rfl rfl); (iterate 10 refine R_skip ?_ rfl rfl); (iterate 2 refine R_p rfl ?_ rfl rfl); refine R_nil (S_seq rfl (S_region rfl rfl ?_)); (iterate 3 refine R_p rfl ?_ rfl rfl); refine R_take (T_load rfl rfl rfl rfl) ?_ rfl rfl; refine R_p rfl ?_ rfl rfl; refine R_take (T_decF rfl (by omega)) ?_ rfl rfl; (iterate 2 refine R_p rfl ?_ rfl rfl); (iterate 9 refine R_skip ?_ rfl rfl); (iterate 2 refine R_p rfl ?_ rfl rfl); (iterate 6 refine R_skip ?_ rfl rfl); (iterate 2 refine R_p rfl ?_ rfl rfl); refine R_nil ?_)
      exact hB _ _ _ _ _ rfl rfl fun w' hS => ⟨(), rfl, trivial, hS.sublist (List.nil_sublist _)⟩
  have hz2 : baseB (i, t) = (decide (0 < i) && decide (0 < t)) := by rw [baseB, decide_eq_false hz]; rfl
  have hz := decide_eq_false hz
  by_cases hi0 : 0 < i
  · by_cases ht0 : 0 < t
    · have hb : baseB (i, t) = true := by rw [hz2, decide_eq_true hi0, decide_eq_true ht0]; rfl
      by_cases h16 : Q.length ≤ 16
      · by_cases hi : i ≤ 18446744073709551614 - Q.length
        · rw [hb, decide_eq_true h16, decide_eq_true hi, Bool.and_self, Bool.and_self, Bool.true_and] at hB
          focus (refine S_seq rfl ?_; refine S_region rfl rfl ?_; (refine R_eff (E_boxa (cs := lgc (i, t) A Q.length c) rfl) ?_ rfl rfl; rintro _ _ ⟨b1, rfl, rfl⟩); refine R_p rfl ?_ rfl rfl; refine R_nil (S_seq rfl (S_region rfl rfl ?_)); refine R_p rfl ?_ rfl rfl; refine R_take (T_loads (ds := atc (i, t)) rfl rfl rfl rfl rfl) ?_ rfl rfl; refine R_take (T_build0 at_built0) ?_ rfl rfl; refine R_take (T_eqAt (a := (i, t)) (b := (0, 0)) rfl rfl hz) ?_ rfl rfl; refine R_p rfl ?_ rfl rfl; refine R_nil (S_seq rfl (S_region rfl rfl ?_)); (iterate 4 refine R_p rfl ?_ rfl rfl); refine R_take (T_load rfl rfl rfl rfl) ?_ rfl rfl; refine R_take (T_decT rfl (by omega)) ?_ rfl rfl; (iterate 3 refine R_p rfl ?_ rfl rfl); refine R_take (T_load rfl rfl rfl rfl) ?_ rfl rfl; refine R_take (T_decT rfl (by omega)) ?_ rfl rfl; (iterate 3 refine R_p rfl ?_ rfl rfl); refine R_nil (S_seq rfl (S_region rfl rfl ?_)); (iterate 3 refine R_p rfl ?_ rfl rfl); refine R_take (T_load rfl rfl rfl rfl) ?_ rfl rfl; refine R_p rfl ?_ rfl rfl; refine R_take (T_decT rfl (by omega)) ?_ rfl rfl; (iterate 4 refine R_p rfl ?_ rfl rfl); refine R_take (T_load rfl rfl rfl rfl) ?_ rfl rfl; refine R_p rfl ?_ rfl rfl; refine R_take (T_load rfl rfl rfl rfl) ?_ rfl rfl; refine R_p rfl ?_ rfl rfl; refine R_take (T_convf rfl rfl rfl rfl (by unfold fits; omega)) ?_ rfl rfl; refine R_take (T_subN rfl rfl (by omega) (by unfold fits; omega)) ?_ rfl rfl; refine R_take (T_decT rfl (by omega)) ?_ rfl rfl; (iterate 3 refine R_p rfl ?_ rfl rfl); refine R_take (T_load rfl rfl rfl rfl) ?_ rfl rfl; (iterate 2 refine R_p rfl ?_ rfl rfl); refine R_take (T_load rfl rfl rfl rfl) ?_ rfl rfl; ((refine R_eff (E_hv0 (f := 79) ⟨_, Tryd.func79, rfl, by kernel_rfl⟩ (fun w hS => rising_any w A c Q t ((Srd.old h (fun k _ => noOwns k)).rd w hS) hn) rfl rfl (fun _ => rfl)) ?_ rfl rfl; rintro _ _ ⟨_, rfl, _, rfl⟩); rw [hr]); (iterate 2 refine R_p rfl ?_ rfl rfl); refine R_nil ?_)
          exact hB _ _ _ _ _ rfl rfl fun w' hS => ⟨(), rfl, trivial, hS.sublist (List.nil_sublist _)⟩
        · rw [hb, decide_eq_true h16, decide_eq_false hi, Bool.and_false, Bool.false_and] at hB
          focus (refine S_seq rfl ?_; refine S_region rfl rfl ?_; (refine R_eff (E_boxa (cs := lgc (i, t) A Q.length c) rfl) ?_ rfl rfl; rintro _ _ ⟨b1, rfl, rfl⟩); refine R_p rfl ?_ rfl rfl; refine R_nil (S_seq rfl (S_region rfl rfl ?_)); refine R_p rfl ?_ rfl rfl; refine R_take (T_loads (ds := atc (i, t)) rfl rfl rfl rfl rfl) ?_ rfl rfl; refine R_take (T_build0 at_built0) ?_ rfl rfl; refine R_take (T_eqAt (a := (i, t)) (b := (0, 0)) rfl rfl hz) ?_ rfl rfl; refine R_p rfl ?_ rfl rfl; refine R_nil (S_seq rfl (S_region rfl rfl ?_)); (iterate 4 refine R_p rfl ?_ rfl rfl); refine R_take (T_load rfl rfl rfl rfl) ?_ rfl rfl; refine R_take (T_decT rfl (by omega)) ?_ rfl rfl; (iterate 3 refine R_p rfl ?_ rfl rfl); refine R_take (T_load rfl rfl rfl rfl) ?_ rfl rfl; refine R_take (T_decT rfl (by omega)) ?_ rfl rfl; (iterate 3 refine R_p rfl ?_ rfl rfl); refine R_nil (S_seq rfl (S_region rfl rfl ?_)); (iterate 3 refine R_p rfl ?_ rfl rfl); refine R_take (T_load rfl rfl rfl rfl) ?_ rfl rfl; refine R_p rfl ?_ rfl rfl; refine R_take (T_decT rfl (by omega)) ?_ rfl rfl; (iterate 4 refine R_p rfl ?_ rfl rfl); refine R_take (T_load rfl rfl rfl rfl) ?_ rfl rfl; refine R_p rfl ?_ rfl rfl; refine R_take (T_load rfl rfl rfl rfl) ?_ rfl rfl; refine R_p rfl ?_ rfl rfl; refine R_take (T_convf rfl rfl rfl rfl (by unfold fits; omega)) ?_ rfl rfl; refine R_take (T_subN rfl rfl (by omega) (by unfold fits; omega)) ?_ rfl rfl; refine R_take (T_decF rfl (by omega)) ?_ rfl rfl; (iterate 2 refine R_p rfl ?_ rfl rfl); (iterate 6 refine R_skip ?_ rfl rfl); (iterate 2 refine R_p rfl ?_ rfl rfl); refine R_nil ?_)
          exact hB _ _ _ _ _ rfl rfl fun w' hS => ⟨(), rfl, trivial, hS.sublist (List.nil_sublist _)⟩
      · rw [hb, decide_eq_false h16, Bool.and_false, Bool.false_and, Bool.false_and] at hB
        focus (refine S_seq rfl ?_; refine S_region rfl rfl ?_; (refine R_eff (E_boxa (cs := lgc (i, t) A Q.length c) rfl) ?_ rfl rfl; rintro _ _ ⟨b1, rfl, rfl⟩); refine R_p rfl ?_ rfl rfl; refine R_nil (S_seq rfl (S_region rfl rfl ?_)); refine R_p rfl ?_ rfl rfl; refine R_take (T_loads (ds := atc (i, t)) rfl rfl rfl rfl rfl) ?_ rfl rfl; refine R_take (T_build0 at_built0) ?_ rfl rfl; refine R_take (T_eqAt (a := (i, t)) (b := (0, 0)) rfl rfl hz) ?_ rfl rfl; refine R_p rfl ?_ rfl rfl; refine R_nil (S_seq rfl (S_region rfl rfl ?_)); (iterate 4 refine R_p rfl ?_ rfl rfl); refine R_take (T_load rfl rfl rfl rfl) ?_ rfl rfl; refine R_take (T_decT rfl (by omega)) ?_ rfl rfl; (iterate 3 refine R_p rfl ?_ rfl rfl); refine R_take (T_load rfl rfl rfl rfl) ?_ rfl rfl; refine R_take (T_decT rfl (by omega)) ?_ rfl rfl; (iterate 3 refine R_p rfl ?_ rfl rfl); refine R_nil (S_seq rfl (S_region rfl rfl ?_)); (iterate 3 refine R_p rfl ?_ rfl rfl); refine R_take (T_load rfl rfl rfl rfl) ?_ rfl rfl; refine R_p rfl ?_ rfl rfl; refine R_take (T_decF rfl (by omega)) ?_ rfl rfl; (iterate 2 refine R_p rfl ?_ rfl rfl); (iterate 9 refine R_skip ?_ rfl rfl); (iterate 2 refine R_p rfl ?_ rfl rfl); (iterate 6 refine R_skip ?_ rfl rfl); (iterate 2 refine R_p rfl ?_ rfl rfl); refine R_nil ?_)
        exact hB _ _ _ _ _ rfl rfl fun w' hS => ⟨(), rfl, trivial, hS.sublist (List.nil_sublist _)⟩
    · rw [hz2, decide_eq_true hi0, decide_eq_false ht0, Bool.and_false, Bool.false_and, Bool.false_and, Bool.false_and] at hB
      focus (refine S_seq rfl ?_; refine S_region rfl rfl ?_; (refine R_eff (E_boxa (cs := lgc (i, t) A Q.length c) rfl) ?_ rfl rfl; rintro _ _ ⟨b1, rfl, rfl⟩); refine R_p rfl ?_ rfl rfl; refine R_nil (S_seq rfl (S_region rfl rfl ?_)); refine R_p rfl ?_ rfl rfl; refine R_take (T_loads (ds := atc (i, t)) rfl rfl rfl rfl rfl) ?_ rfl rfl; refine R_take (T_build0 at_built0) ?_ rfl rfl; refine R_take (T_eqAt (a := (i, t)) (b := (0, 0)) rfl rfl hz) ?_ rfl rfl; refine R_p rfl ?_ rfl rfl; refine R_nil (S_seq rfl (S_region rfl rfl ?_)); (iterate 4 refine R_p rfl ?_ rfl rfl); refine R_take (T_load rfl rfl rfl rfl) ?_ rfl rfl; refine R_take (T_decT rfl (by omega)) ?_ rfl rfl; (iterate 3 refine R_p rfl ?_ rfl rfl); refine R_take (T_load rfl rfl rfl rfl) ?_ rfl rfl; refine R_take (T_decF rfl (by omega)) ?_ rfl rfl; (iterate 3 refine R_p rfl ?_ rfl rfl); refine R_nil (S_seq rfl (S_region rfl rfl ?_)); (iterate 2 refine R_p rfl ?_ rfl rfl); (iterate 4 refine R_skip ?_ rfl rfl); (iterate 2 refine R_p rfl ?_ rfl rfl); (iterate 9 refine R_skip ?_ rfl rfl); (iterate 2 refine R_p rfl ?_ rfl rfl); (iterate 6 refine R_skip ?_ rfl rfl); (iterate 2 refine R_p rfl ?_ rfl rfl); refine R_nil ?_)
      exact hB _ _ _ _ _ rfl rfl fun w' hS => ⟨(), rfl, trivial, hS.sublist (List.nil_sublist _)⟩
  · rw [hz2, decide_eq_false hi0, Bool.false_and, Bool.false_and, Bool.false_and, Bool.false_and] at hB
    focus (refine S_seq rfl ?_; refine S_region rfl rfl ?_; (refine R_eff (E_boxa (cs := lgc (i, t) A Q.length c) rfl) ?_ rfl rfl; rintro _ _ ⟨b1, rfl, rfl⟩); refine R_p rfl ?_ rfl rfl; refine R_nil (S_seq rfl (S_region rfl rfl ?_)); refine R_p rfl ?_ rfl rfl; refine R_take (T_loads (ds := atc (i, t)) rfl rfl rfl rfl rfl) ?_ rfl rfl; refine R_take (T_build0 at_built0) ?_ rfl rfl; refine R_take (T_eqAt (a := (i, t)) (b := (0, 0)) rfl rfl hz) ?_ rfl rfl; refine R_p rfl ?_ rfl rfl; refine R_nil (S_seq rfl (S_region rfl rfl ?_)); (iterate 4 refine R_p rfl ?_ rfl rfl); refine R_take (T_load rfl rfl rfl rfl) ?_ rfl rfl; refine R_take (T_decF rfl (by omega)) ?_ rfl rfl; refine R_p rfl ?_ rfl rfl; (iterate 4 refine R_skip ?_ rfl rfl); (iterate 3 refine R_p rfl ?_ rfl rfl); refine R_nil (S_seq rfl (S_region rfl rfl ?_)); (iterate 2 refine R_p rfl ?_ rfl rfl); (iterate 4 refine R_skip ?_ rfl rfl); (iterate 2 refine R_p rfl ?_ rfl rfl); (iterate 9 refine R_skip ?_ rfl rfl); (iterate 2 refine R_p rfl ?_ rfl rfl); (iterate 6 refine R_skip ?_ rfl rfl); (iterate 2 refine R_p rfl ?_ rfl rfl); refine R_nil ?_)
    exact hB _ _ _ _ _ rfl rfl fun w' hS => ⟨(), rfl, trivial, hS.sublist (List.nil_sublist _)⟩
set_option maxRecDepth 100000 in
set_option maxHeartbeats 4000000 in
theorem last_any (w : World) (a : At) (A : Option Addr) (c : Nat) (Q : List Em) (h : Rd w All 3 A Q.length (cellsL emc Q)) (hn : Q.length ≤ 100000) (hf : a.1 + Q.length ≤ 18446744073709551615) :
    Gives Tryd.prog 60 [.agg (lgc a A Q.length c).toArray] [] w (X := Unit) (fun _ => .agg (atc (lastA a (Q.map emv))).toArray) (fun _ => True) (fun _ => []) := by
  refine gives_C Tryd.func60 rfl Tryd.ntmps60 Tryd.results60 (by simp) (St.enter w) (fun B hB => ?_)
  obtain ⟨i, t⟩ := a
  have hf : i + Q.length ≤ 18446744073709551615 := hf
  have hl : lastA (i, t) (Q.map emv) = (i + Q.length, lastT (Q.map emv) t) := by rw [lastA, List.length_map]
  rw [hl] at hB
  have hne : 0 < Q.length → A ≠ none := fun h0 => by obtain ⟨ad, rfl, _⟩ := h.2 (by omega); simp
  by_cases h0 : Q.length = 0
  · have e1 : lastT (Q.map emv) t = t := by rw [List.eq_nil_of_length_eq_zero h0]; rfl
    rw [e1, h0, Nat.add_zero] at hB
    focus (refine S_seq rfl ?_; refine S_region rfl rfl ?_; (refine R_eff (E_boxa (cs := lgc (i, t) A Q.length c) rfl) ?_ rfl rfl; rintro _ _ ⟨b1, rfl, rfl⟩); (refine R_eff (E_alloca rfl at_zero) ?_ rfl rfl; rintro _ _ ⟨b2, rfl, rfl⟩); refine R_nil (S_seq rfl (S_region rfl rfl ?_)); refine R_p rfl ?_ rfl rfl; refine R_take (T_load rfl rfl rfl rfl) ?_ rfl rfl; (iterate 2 refine R_p rfl ?_ rfl rfl); refine R_nil ?_; refine S_seq rfl ?_; refine S_seq rfl (S_region rfl rfl ?_); refine R_p rfl ?_ rfl rfl; refine R_take (T_decT rfl (by omega)) ?_ rfl rfl; refine R_nil ?_; refine S_true rfl rfl ?_; refine S_seq rfl (S_region rfl rfl ?_); refine R_p rfl ?_ rfl rfl; refine R_take (T_loads (ds := atc (i, t)) rfl rfl rfl rfl rfl) ?_ rfl rfl; (refine R_eff0 (E_storew (cs := atc (0, 0)) (ds := atc (i, t)) rfl rfl rfl rfl (atc_one _) rfl) ?_ rfl; rintro _ _ rfl); refine R_nil ?_)
    refine hB _ _ _ _ _ rfl (.cell rfl rfl rfl inferInstance rfl .nil) fun w' hS => ⟨(), rfl, trivial, hS.sublist (List.nil_sublist _)⟩
  · have hne := hne (by omega)
    have e1 := lastT_at Q t (by omega)
    have hat := cellsL_at (f := emc) emc_len Q default (Q.length - 1) (by omega)
    have hlt : Q.length - 1 < Q.length := by omega
    obtain ⟨m, hm⟩ : ∃ m, Q.getD (Q.length - 1) default = m := ⟨_, rfl⟩
    rw [hm] at hat e1
    rw [e1] at hB
    have hat0 : (cellsL emc Q)[(Q.length - 1) * 3 + 0]? = some (.int .u64 (m.1 : Int)) := hat 0 _ rfl
    focus (refine S_seq rfl ?_; refine S_region rfl rfl ?_; (refine R_eff (E_boxa (cs := lgc (i, t) A Q.length c) rfl) ?_ rfl rfl; rintro _ _ ⟨b1, rfl, rfl⟩); (refine R_eff (E_alloca rfl at_zero) ?_ rfl rfl; rintro _ _ ⟨b2, rfl, rfl⟩); refine R_nil (S_seq rfl (S_region rfl rfl ?_)); refine R_p rfl ?_ rfl rfl; refine R_take (T_load rfl rfl rfl rfl) ?_ rfl rfl; (iterate 2 refine R_p rfl ?_ rfl rfl); refine R_nil ?_; refine S_seq rfl ?_; refine S_seq rfl (S_region rfl rfl ?_); refine R_p rfl ?_ rfl rfl; refine R_take (T_decF rfl (by omega)) ?_ rfl rfl; refine R_nil ?_; refine S_false rfl rfl ?_; refine S_skip rfl ?_; refine S_seq rfl ?_)
    refine S_draw ([pt b1 55 (lgc (i, t) A Q.length c)]) sub_st (by kernel_rfl) rfl (by kernel_rfl) (by kernel_rfl : _ = 15) ?_
    refine D_take 0 rfl (pev_ok rfl) ?_ rfl rfl (by kernel_rfl) (by kernel_rfl)
    refine D_take 1 rfl (pev_ok rfl) ?_ rfl rfl (by kernel_rfl) (by kernel_rfl)
    refine D_take 2 rfl (T_load rfl rfl rfl rfl) ?_ rfl rfl (by kernel_rfl) (by kernel_rfl)
    refine D_take 3 rfl (pev_ok rfl) ?_ rfl rfl (by kernel_rfl) (by kernel_rfl)
    (refine D_take 4 rfl (T_convf rfl rfl rfl rfl (by unfold fits; omega)) ?_ rfl rfl (by kernel_rfl) (by kernel_rfl))
    (refine D_take 5 rfl (T_addN rfl rfl (by unfold fits; omega)) ?_ rfl rfl (by kernel_rfl) (by kernel_rfl))
    refine D_take 6 rfl (pev_ok rfl) ?_ rfl rfl (by kernel_rfl) (by kernel_rfl)
    refine D_take 7 rfl (T_load rfl rfl rfl rfl) ?_ rfl rfl (by kernel_rfl) (by kernel_rfl)
    refine D_take 8 rfl (pev_ok rfl) ?_ rfl rfl (by kernel_rfl) (by kernel_rfl)
    (refine D_take 9 rfl (T_subN rfl rfl (by omega) (by unfold fits; omega)) ?_ rfl rfl (by kernel_rfl) (by kernel_rfl))
    refine D_take 10 rfl (T_ixM (sz := 3) (q := Q.length - 1) rfl rfl rfl rfl rfl rfl hne hlt) ?_ rfl rfl (by kernel_rfl) (by kernel_rfl)
    refine D_take 11 rfl (T_fap rfl rfl rfl rfl rfl hne) ?_ rfl rfl (by kernel_rfl) (by kernel_rfl)
    refine D_take 12 rfl (T_ldr rfl rfl rfl (Srd.old h (fun k _ => noOwns k)) (by omega) hat0) ?_ rfl rfl (by kernel_rfl) (by kernel_rfl)
    refine D_take 13 rfl (T_build2 rfl rfl (at_built2 (i + Q.length) m.1)) ?_ rfl rfl (by kernel_rfl) (by kernel_rfl)
    refine D_one 14 rfl (E_storew (cs := atc (0, 0)) (ds := atc (i + Q.length, m.1)) rfl rfl rfl rfl (atc_one _) rfl) ?_ rfl rfl (by kernel_rfl)
    rintro _ _ rfl
    refine Nx_same sub_st ?_
    refine D_done ?_ (by kernel_rfl)
    skip
    skip
    refine hB _ _ _ _ _ rfl (.cell rfl rfl rfl inferInstance rfl .nil) fun w' hS => ⟨(), rfl, trivial, hS.sublist (List.nil_sublist _)⟩
end Go.Proofs.YtdbehejbeioboaaDoor
