/- Logs: has, Has, Term, Check; entries copied. -/
import Derived.Test.YtkdpfnaaopimoaaLg4
namespace Go.Proofs.Ytkdpfnaaopimoaa
open Go.RowKit
open Asn (pt row rb)
set_option linter.unusedVariables false
set_option linter.unusedSimpArgs false
--@use N

def hasB (a : At) (l : List En) (p : At) : Bool := decide (0 ≤ (findR a l p.1).1) && decide ((findR a l p.1).2 = p)
set_option maxRecDepth 100000 in
set_option maxHeartbeats 4000000 in
theorem has_any (w : World) (a : At) (A : Option Addr) (c : Nat) (Q : List Em) (h : Rd w All 3 A Q.length (cellsL emc Q)) (hn : Q.length ≤ 100000) (hf : a.1 + Q.length ≤ 18446744073709551615) (p : At) :
    Gives Try.prog 42 [.agg (lgc a A Q.length c).toArray, .agg (atc p).toArray] [] w (X := Unit) (fun _ => .bool (hasB a (Q.map emv) p)) (fun _ => True) (fun _ => []) := by
  refine gives_S Try.func42 rfl Try.ntmps42 Try.results42 (by simp) (St.enter w) (fun B hB => ?_)
  obtain ⟨⟨k, q⟩, hR⟩ : ∃ x, findR a (Q.map emv) p.1 = x := ⟨_, rfl⟩
  obtain ⟨r, hr⟩ : ∃ r, decide (q = p) = r := ⟨_, rfl⟩
  have hq : hasB a (Q.map emv) p = (decide (0 ≤ k) && r) := by rw [hasB, hR, ← hr]
  rw [hq] at hB
  obtain ⟨pi, pu⟩ := p
  by_cases hk : 0 ≤ k
  · rw [decide_eq_true hk, Bool.true_and] at hB
    focus (refine S_seq rfl ?_; refine S_region rfl rfl ?_; (refine R_eff (E_boxa (cs := lgc a A Q.length c) rfl) ?_ rfl rfl; rintro _ _ ⟨b2, rfl, rfl⟩); (refine R_eff (E_boxa (cs := atc (pi, pu)) rfl) ?_ rfl rfl; rintro _ _ ⟨b3, rfl, rfl⟩); refine R_p rfl ?_ rfl rfl; refine R_nil ?_; refine S_seq rfl ?_; refine S_region rfl rfl ?_; refine R_take (T_loads (ds := lgc a A Q.length c) rfl rfl rfl rfl rfl) ?_ rfl rfl; refine R_p rfl ?_ rfl rfl; refine R_take (T_load rfl rfl rfl rfl) ?_ rfl rfl; ((refine R_eff (E_hv0 (f := 51) ⟨_, Try.func51, rfl, by kernel_rfl⟩ (fun w hS => find_any w a A c Q ((Srd.old h (fun k _ => noOwns k)).rd w hS) hn hf pi) rfl rfl (fun _ => rfl)) ?_ rfl rfl; rintro _ _ ⟨_, rfl, _, rfl⟩); rw [hR]); refine R_p rfl ?_ rfl rfl; refine R_p rfl ?_ rfl rfl; refine R_p rfl ?_ rfl rfl; (refine R_eff (E_alloca rfl at_zero) ?_ rfl rfl; rintro _ _ ⟨b6, rfl, rfl⟩); refine R_p rfl ?_ rfl rfl; (refine R_eff0 (E_storew (cs := atc (0, 0)) (ds := atc q) rfl rfl rfl rfl (atc_one _) rfl) ?_ rfl; rintro _ _ rfl); refine R_nil ?_; refine S_seq rfl ?_; refine S_region rfl rfl ?_; refine R_p rfl ?_ rfl rfl; refine R_take (T_decT rfl (by omega)) ?_ rfl rfl; refine R_take (T_decT rfl (by omega)) ?_ rfl rfl; refine R_take (T_loads (ds := atc q) rfl rfl rfl rfl rfl) ?_ rfl rfl; refine R_take (T_loads (ds := atc (pi, pu)) rfl rfl rfl rfl rfl) ?_ rfl rfl; refine R_take (T_eqAt (a := q) (b := (pi, pu)) rfl rfl hr) ?_ rfl rfl; refine R_p rfl ?_ rfl rfl; refine R_p rfl ?_ rfl rfl; refine R_nil ?_)
    exact hB _ _ _ _ _ rfl rfl fun w' hS => ⟨(), rfl, trivial, hS.sublist (List.nil_sublist _)⟩
  · rw [decide_eq_false hk, Bool.false_and] at hB
    focus (refine S_seq rfl ?_; refine S_region rfl rfl ?_; (refine R_eff (E_boxa (cs := lgc a A Q.length c) rfl) ?_ rfl rfl; rintro _ _ ⟨b2, rfl, rfl⟩); (refine R_eff (E_boxa (cs := atc (pi, pu)) rfl) ?_ rfl rfl; rintro _ _ ⟨b3, rfl, rfl⟩); refine R_p rfl ?_ rfl rfl; refine R_nil ?_; refine S_seq rfl ?_; refine S_region rfl rfl ?_; refine R_take (T_loads (ds := lgc a A Q.length c) rfl rfl rfl rfl rfl) ?_ rfl rfl; refine R_p rfl ?_ rfl rfl; refine R_take (T_load rfl rfl rfl rfl) ?_ rfl rfl; ((refine R_eff (E_hv0 (f := 51) ⟨_, Try.func51, rfl, by kernel_rfl⟩ (fun w hS => find_any w a A c Q ((Srd.old h (fun k _ => noOwns k)).rd w hS) hn hf pi) rfl rfl (fun _ => rfl)) ?_ rfl rfl; rintro _ _ ⟨_, rfl, _, rfl⟩); rw [hR]); refine R_p rfl ?_ rfl rfl; refine R_p rfl ?_ rfl rfl; refine R_p rfl ?_ rfl rfl; (refine R_eff (E_alloca rfl at_zero) ?_ rfl rfl; rintro _ _ ⟨b6, rfl, rfl⟩); refine R_p rfl ?_ rfl rfl; (refine R_eff0 (E_storew (cs := atc (0, 0)) (ds := atc q) rfl rfl rfl rfl (atc_one _) rfl) ?_ rfl; rintro _ _ rfl); refine R_nil ?_; refine S_seq rfl ?_; refine S_region rfl rfl ?_; refine R_p rfl ?_ rfl rfl; refine R_take (T_decF rfl (by omega)) ?_ rfl rfl; refine R_p rfl ?_ rfl rfl; refine R_skip ?_ rfl rfl; refine R_skip ?_ rfl rfl; refine R_skip ?_ rfl rfl; refine R_p rfl ?_ rfl rfl; refine R_p rfl ?_ rfl rfl; refine R_nil ?_)
    exact hB _ _ _ _ _ rfl rfl fun w' hS => ⟨(), rfl, trivial, hS.sublist (List.nil_sublist _)⟩
set_option maxRecDepth 100000 in
set_option maxHeartbeats 4000000 in
theorem bclone_any (w : World) (A : Option Addr) (n c : Nat) (xs : List Value) (h : Rd w All 1 A n xs) (h1 : ∀ v ∈ xs, v.oneCell' = true) (hn : n ≤ 100000) :
    Gives Try.prog 55 [.slice A n c] [] w (X := Option Addr × Nat) (fun x => .slice x.1 n x.2) (fun _ => True) (fun x => [row 5 1 x.1 n x.2 xs]) := by
  refine gives_S Try.func55 rfl Try.ntmps55 Try.results55 (by simp) (St.enter w) (fun B hB => ?_)
  cases hA : A with
  | none =>
    subst hA
    have hn0 : n = 0 := by
      rcases Nat.eq_zero_or_pos n with h0 | h0
      · exact h0
      · obtain ⟨ad, e, _⟩ := h.2 h0
        cases e
    subst hn0
    obtain rfl : xs = [] := List.eq_nil_of_length_eq_zero (by simpa using h.1)
    focus (refine S_seq rfl ?_; refine S_region rfl rfl ?_; refine R_p rfl ?_ rfl rfl; refine R_nil ?_; refine S_seq rfl ?_; refine S_seq rfl ?_; refine S_region rfl rfl ?_; refine R_p rfl ?_ rfl rfl; refine R_take (T_eqnil rfl rfl rfl rfl) ?_ rfl rfl; refine R_nil ?_; refine S_true rfl rfl ?_; refine S_seq rfl ?_; refine S_region rfl rfl ?_; refine R_p rfl ?_ rfl rfl; refine R_nil ?_)
    all_goals (try (exfalso; simp_all; done))
    refine hB _ _ _ _ _ rfl rfl fun w' hS => ⟨(none, 0), rfl, trivial, (hS.sublist (List.nil_sublist _)).nilrow _ _⟩
  | some ad =>
    subst hA
    focus (refine S_seq rfl ?_; refine S_region rfl rfl ?_; refine R_p rfl ?_ rfl rfl; refine R_nil ?_; refine S_seq rfl ?_; refine S_seq rfl ?_; refine S_region rfl rfl ?_; refine R_p rfl ?_ rfl rfl; refine R_take (T_eqnil rfl rfl rfl rfl) ?_ rfl rfl; refine R_nil ?_; refine S_false rfl rfl ?_; refine S_skip rfl ?_; refine S_seq rfl ?_; refine S_region rfl rfl ?_; (refine R_eff (E_lit1 (m := 0) (vs := []) rfl rfl rfl rfl rfl rfl rfl (by simp) (by decide)) ?_ rfl rfl; rintro _ _ ⟨bl, rfl, rfl⟩); refine R_p rfl ?_ rfl rfl; (refine R_eff (E_apple rfl rfl rfl rfl rfl rfl rfl (by decide) .here (Srd.old h (fun k _ => noOwns k)) h1 (by show n * 1 ≤ _; omega) (by unfold maxLen; omega)) ?_ rfl rfl; rintro _ _ ⟨A', c', rfl, rfl⟩); refine R_p rfl ?_ rfl rfl; refine R_nil ?_)
    all_goals (try (exfalso; simp_all; done))
    refine hB _ _ _ _ _ rfl rfl fun w' hS => ⟨(A', c'), rfl, trivial, hS⟩
set_option maxRecDepth 100000 in
set_option maxHeartbeats 4000000 in
theorem eclone_any (w : World) (A : Option Addr) (n c : Nat) (xs : List Value) (h : Rd w All 3 A n xs) (h1 : ∀ v ∈ xs, v.oneCell' = true) (hn : n ≤ 1000) :
    Gives Try.prog 56 [.slice A n c] [] w (X := Option Addr × Nat) (fun x => .slice x.1 n x.2) (fun _ => True) (fun x => [row 44 3 x.1 n x.2 xs]) := by
  refine gives_S Try.func56 rfl Try.ntmps56 Try.results56 (by simp) (St.enter w) (fun B hB => ?_)
  cases hA : A with
  | none =>
    subst hA
    have hn0 : n = 0 := by
      rcases Nat.eq_zero_or_pos n with h0 | h0
      · exact h0
      · obtain ⟨ad, e, _⟩ := h.2 h0
        cases e
    subst hn0
    obtain rfl : xs = [] := List.eq_nil_of_length_eq_zero (by simpa using h.1)
    focus (refine S_seq rfl ?_; refine S_region rfl rfl ?_; refine R_p rfl ?_ rfl rfl; refine R_nil ?_; refine S_seq rfl ?_; refine S_seq rfl ?_; refine S_region rfl rfl ?_; refine R_p rfl ?_ rfl rfl; refine R_take (T_eqnil rfl rfl rfl rfl) ?_ rfl rfl; refine R_nil ?_; refine S_true rfl rfl ?_; refine S_seq rfl ?_; refine S_region rfl rfl ?_; refine R_p rfl ?_ rfl rfl; refine R_nil ?_)
    all_goals (try (exfalso; simp_all; done))
    refine hB _ _ _ _ _ rfl rfl fun w' hS => ⟨(none, 0), rfl, trivial, (hS.sublist (List.nil_sublist _)).nilrow _ _⟩
  | some ad =>
    subst hA
    focus (refine S_seq rfl ?_; refine S_region rfl rfl ?_; refine R_p rfl ?_ rfl rfl; refine R_nil ?_; refine S_seq rfl ?_; refine S_seq rfl ?_; refine S_region rfl rfl ?_; refine R_p rfl ?_ rfl rfl; refine R_take (T_eqnil rfl rfl rfl rfl) ?_ rfl rfl; refine R_nil ?_; refine S_false rfl rfl ?_; refine S_skip rfl ?_; refine S_seq rfl ?_; refine S_region rfl rfl ?_; (refine R_eff (E_litS (vs := []) (size := 3) (ds := []) rfl rfl rfl rfl rfl rfl (by simp) rfl (by omega)) ?_ rfl rfl; rintro _ _ ⟨bl, rfl, rfl⟩); refine R_p rfl ?_ rfl rfl; (refine R_eff (E_apple (sz := 3) rfl rfl rfl rfl rfl rfl rfl (by decide) .here (Srd.old h (fun k _ => noOwns k)) h1 (by show n * 40 ≤ _; omega) (by unfold maxLen; omega)) ?_ rfl rfl; rintro _ _ ⟨A', c', rfl, rfl⟩); refine R_p rfl ?_ rfl rfl; refine R_nil ?_)
    all_goals (try (exfalso; simp_all; done))
    refine hB _ _ _ _ _ rfl rfl fun w' hS => ⟨(A', c'), rfl, trivial, hS⟩
end Go.Proofs.Ytkdpfnaaopimoaa
