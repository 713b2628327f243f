/- Maps and edits: Check, CheckEdit. -/
import Derived.Test.YtebbnbddlnpldaaPm0
namespace Go.Proofs.Ytebbnbddlnpldaa
open Go.RowKit
open Asn (pt row rb)
set_option linter.unusedVariables false
set_option linter.unusedSimpArgs false
--@use N

theorem ogets_cap (T : Slots) (x : Operand) (v : Value) (hx : oget T x = some v) : ∀ cap : List Value, ogets T (#[x] ++ (cap.map Operand.const).toArray).toList = some (v :: cap) := fun cap => by
  have h : ogets T (cap.map Operand.const) = some cap := by
    induction cap with
    | nil => rfl
    | cons u l ih => simp [ogets, ih, oget]
  simp [ogets, hx, h]
/-! which rows are wrong by themselves -/
def badR (x : Rw) : Bool := decide (256 < x.2.length)
def badC (x : Ch) : Bool := decide (256 < x.2.2.length) || (!x.2.1 && decide (x.2.2 ≠ []))
/-- each is a path and above the one ahead, as far as k -/
def stepB (ps : List Str) (i : Nat) : Bool := pathB (ps.getD i []) && (decide (i = 0) || Op.bytesLess (ps.getD (i - 1) []) (ps.getD i []))
def incN (ps : List Str) (k : Nat) : Bool := (List.range k).all (stepB ps)
theorem inc_next (ps : List Str) (k : Nat) : incN ps (k + 1) = (incN ps k && stepB ps k) := by
  rw [incN, List.range_succ, List.all_append, incN]
  simp
theorem inc_bad {ps : List Str} {j n : Nat} (hj : j < n) (h : stepB ps j = false) : incN ps n = false := by
  rw [incN, List.all_eq_false]
  exact ⟨j, List.mem_range.2 hj, by simp [h]⟩
def risB (ps : List Str) : Bool := decide (ps.length ≤ 32) && incN ps ps.length
/-- may be a map; an edit -/
def chkR (L : List Rw) : Bool := L.all (fun x => !badR x) && risB (L.map (·.1))
def chkC (L : List Ch) : Bool := L.all (fun x => !badC x) && risB (L.map (·.1))
set_option maxRecDepth 100000 in
set_option maxHeartbeats 4000000 in
theorem rowPath_any (w : World) (x : Rw) :
    Gives Try.prog 40 [.agg (rwc x).toArray] [] w (X := Unit) (fun _ => sv x.1) (fun _ => True) (fun _ => []) := by
  refine gives_S Try.func40 rfl Try.ntmps40 Try.results40 (by simp) (St.enter w) (fun B hB => ?_)
  focus (refine S_seq rfl ?_; refine S_region rfl rfl ?_; (refine R_eff (E_boxa rfl) ?_ rfl rfl; rintro _ _ ⟨b, rfl, rfl⟩); refine R_p rfl ?_ rfl rfl; refine R_nil ?_; refine S_seq rfl ?_; refine S_region rfl rfl ?_; refine R_p rfl ?_ rfl rfl; refine R_take (T_load rfl rfl rfl (by first | rfl | assumption)) ?_ rfl rfl; refine R_p rfl ?_ rfl rfl; refine R_nil ?_)
  exact hB _ _ _ _ _ rfl rfl fun w' hS => ⟨(), rfl, trivial, hS.sublist (List.nil_sublist _)⟩
set_option maxRecDepth 100000 in
set_option maxHeartbeats 4000000 in
theorem chPath_any (w : World) (x : Ch) :
    Gives Try.prog 44 [.agg (chc x).toArray] [] w (X := Unit) (fun _ => sv x.1) (fun _ => True) (fun _ => []) := by
  refine gives_S Try.func44 rfl Try.ntmps44 Try.results44 (by simp) (St.enter w) (fun B hB => ?_)
  focus (refine S_seq rfl ?_; refine S_region rfl rfl ?_; (refine R_eff (E_boxa rfl) ?_ rfl rfl; rintro _ _ ⟨b, rfl, rfl⟩); refine R_p rfl ?_ rfl rfl; refine R_nil ?_; refine S_seq rfl ?_; refine S_region rfl rfl ?_; refine R_p rfl ?_ rfl rfl; refine R_take (T_load rfl rfl rfl (by first | rfl | assumption)) ?_ rfl rfl; refine R_p rfl ?_ rfl rfl; refine R_nil ?_)
  exact hB _ _ _ _ _ rfl rfl fun w' hS => ⟨(), rfl, trivial, hS.sublist (List.nil_sublist _)⟩
set_option maxRecDepth 100000 in
set_option maxHeartbeats 4000000 in
theorem badR_any (w : World) (x : Rw) :
    Gives Try.prog 39 [.agg (rwc x).toArray] [] w (X := Unit) (fun _ => .bool (badR x)) (fun _ => True) (fun _ => []) := by
  refine gives_S Try.func39 rfl Try.ntmps39 Try.results39 (by simp) (St.enter w) (fun B hB => ?_)
  focus (refine S_seq rfl ?_; refine S_region rfl rfl ?_; (refine R_eff (E_boxa rfl) ?_ rfl rfl; rintro _ _ ⟨b, rfl, rfl⟩); refine R_p rfl ?_ rfl rfl; refine R_nil ?_; refine S_seq rfl ?_; refine S_region rfl rfl ?_; refine R_p rfl ?_ rfl rfl; refine R_take (T_load rfl rfl rfl (by first | rfl | assumption)) ?_ rfl rfl; refine R_take (T_lens rfl rfl rfl) ?_ rfl rfl; refine R_p rfl ?_ rfl rfl; refine R_p rfl ?_ rfl rfl; refine R_nil ?_)
  refine hB _ _ _ _ _ rfl rfl fun w' hS => ⟨(), ?_, trivial, hS.sublist (List.nil_sublist _)⟩
  refine congrArg Value.bool ?_
  rw [badR, Bool.eq_iff_iff]
  simp
  omega
set_option maxRecDepth 100000 in
set_option maxHeartbeats 4000000 in
theorem badC_any (w : World) (x : Ch) :
    Gives Try.prog 43 [.agg (chc x).toArray] [] w (X := Unit) (fun _ => .bool (badC x)) (fun _ => True) (fun _ => []) := by
  refine gives_S Try.func43 rfl Try.ntmps43 Try.results43 (by simp) (St.enter w) (fun B hB => ?_)
  obtain ⟨p, is, t⟩ := x
  have hln : ∀ q : Bool, decide (256 < t.length) = q → badC (p, is, t) = (q || (!is && decide (t ≠ []))) := fun q h => by rw [badC, h]
  have hn0 : scmp .neq t [] = some (decide (t ≠ [])) := rfl
  have hh : (256 : Int) < ((p, is, t).2.2.length : Int) ↔ 256 < t.length := by show (256 : Int) < (t.length : Int) ↔ _; omega
  cases is
  all_goals skip
  · focus (refine S_seq rfl ?_; refine S_region rfl rfl ?_; (refine R_eff (E_boxa rfl) ?_ rfl rfl; rintro _ _ ⟨b, rfl, rfl⟩); refine R_p rfl ?_ rfl rfl; refine R_nil ?_; refine S_seq rfl ?_; refine S_region rfl rfl ?_; refine R_p rfl ?_ rfl rfl; refine R_take (T_load rfl rfl rfl (by first | rfl | assumption)) ?_ rfl rfl; refine R_take (T_lens rfl rfl rfl) ?_ rfl rfl; refine R_p rfl ?_ rfl rfl; refine R_p rfl ?_ rfl rfl; (refine R_splitd rfl rfl (fun hs => ?_) (fun hs => ?_)); refine R_skip ?_ rfl rfl; refine R_skip ?_ rfl rfl; refine R_skip ?_ rfl rfl; refine R_skip ?_ rfl rfl; refine R_skip ?_ rfl rfl; refine R_skip ?_ rfl rfl; refine R_skip ?_ rfl rfl; refine R_skip ?_ rfl rfl; refine R_p rfl ?_ rfl rfl; refine R_p rfl ?_ rfl rfl; refine R_nil ?_; rotate_left; refine R_p rfl ?_ rfl rfl; refine R_take (T_load rfl rfl rfl (by first | rfl | assumption)) ?_ rfl rfl; refine R_take (T_not rfl) ?_ rfl rfl; refine R_p rfl ?_ rfl rfl; refine R_p rfl ?_ rfl rfl; refine R_take (T_load rfl rfl rfl (by first | rfl | assumption)) ?_ rfl rfl; refine R_p rfl ?_ rfl rfl; refine R_p rfl ?_ rfl rfl; refine R_p rfl ?_ rfl rfl; refine R_p rfl ?_ rfl rfl; refine R_nil ?_; rotate_left)
    all_goals (refine hB _ _ _ _ _ rfl rfl fun w' hS => ⟨(), ?_, trivial, hS.sublist (List.nil_sublist _)⟩)
    · rw [hln true (decide_eq_true (hh.1 hs))]
      rfl
    · rw [hln false (decide_eq_false (fun h => hs (hh.2 h)))]
      rfl
  · focus (refine S_seq rfl ?_; refine S_region rfl rfl ?_; (refine R_eff (E_boxa rfl) ?_ rfl rfl; rintro _ _ ⟨b, rfl, rfl⟩); refine R_p rfl ?_ rfl rfl; refine R_nil ?_; refine S_seq rfl ?_; refine S_region rfl rfl ?_; refine R_p rfl ?_ rfl rfl; refine R_take (T_load rfl rfl rfl (by first | rfl | assumption)) ?_ rfl rfl; refine R_take (T_lens rfl rfl rfl) ?_ rfl rfl; refine R_p rfl ?_ rfl rfl; refine R_p rfl ?_ rfl rfl; (refine R_splitd rfl rfl (fun hs => ?_) (fun hs => ?_)); refine R_skip ?_ rfl rfl; refine R_skip ?_ rfl rfl; refine R_skip ?_ rfl rfl; refine R_skip ?_ rfl rfl; refine R_skip ?_ rfl rfl; refine R_skip ?_ rfl rfl; refine R_skip ?_ rfl rfl; refine R_skip ?_ rfl rfl; refine R_p rfl ?_ rfl rfl; refine R_p rfl ?_ rfl rfl; refine R_nil ?_; rotate_left; refine R_p rfl ?_ rfl rfl; refine R_take (T_load rfl rfl rfl (by first | rfl | assumption)) ?_ rfl rfl; refine R_take (T_not rfl) ?_ rfl rfl; refine R_p rfl ?_ rfl rfl; refine R_skip ?_ rfl rfl; refine R_skip ?_ rfl rfl; refine R_skip ?_ rfl rfl; refine R_p rfl ?_ rfl rfl; refine R_p rfl ?_ rfl rfl; refine R_p rfl ?_ rfl rfl; refine R_nil ?_; rotate_left)
    all_goals (refine hB _ _ _ _ _ rfl rfl fun w' hS => ⟨(), ?_, trivial, hS.sublist (List.nil_sublist _)⟩)
    · rw [hln true (decide_eq_true (hh.1 hs))]
      rfl
    · rw [hln false (decide_eq_false (fun h => hs (hh.2 h)))]
      rfl
/-- where one is, of which something is so -/
def idxR (p : Rw → Bool) (L : List Rw) : Int := if L.all (fun x => !p x) then -1 else (L.findIdx p : Nat)
set_option maxRecDepth 100000 in
set_option maxHeartbeats 4000000 in
theorem idxfR_any (w : World) (A : Option Addr) (n c f : Nat) (cap : List Value) (L : List Rw) (p : Rw → Bool) (h : Rd w All 2 A n (cellsL rwc L)) (hn : n ≤ 100000) (hf : Fn_ Try.prog f)
    (hp : ∀ w', Kp All w w' → ∀ x ∈ L, Gives Try.prog f (.agg (rwc x).toArray :: cap) [] w' (X := Unit) (fun _ => .bool (p x)) (fun _ => True) (fun _ => [])) :
    Gives Try.prog 48 [.slice A n c, .func (.func f) #[] cap.toArray] [] w (X := Unit) (fun _ => zi (idxR p L)) (fun _ => True) (fun _ => []) := by
  refine gives_S Try.func48 rfl Try.ntmps48 Try.results48 (by simp) (St.enter w) (fun B hB => ?_)
  have hl : L.length = n := by have := h.1; rw [cellsL_len rwc_len] at this; omega
  have hne : 0 < n → A ≠ none := fun h0 => by obtain ⟨ad, rfl, _⟩ := h.2 (by omega); simp
  subst hl
  focus (refine S_seq rfl ?_; refine S_region rfl rfl ?_; refine R_p rfl ?_ rfl rfl; refine R_nil ?_; refine S_seq rfl ?_; refine S_seq rfl ?_; refine S_region rfl rfl ?_; refine R_p rfl ?_ rfl rfl; refine R_p rfl ?_ rfl rfl; refine R_p rfl ?_ rfl rfl; refine R_nil ?_; refine S_block rfl ?_)
  refine S_loop (X := Nat) (fun j => [(0, .slice A L.length c), (1, .func (.func f) #[] cap.toArray), (7, .int .i64 (L.length : Int)), (8, .int .i64 (j : Int))]) (fun _ => []) (fun j => j ≤ L.length ∧ (L.take j).all (fun x => !p x) = true) (fun j => L.length - j) rfl 0 ⟨Nat.zero_le _, rfl⟩ (Sub.cons rfl (Sub.cons rfl (Sub.cons rfl (Sub.cons rfl Sub.nil)))) (fun _ h => h) ?_
  rintro j ⟨hj, hok⟩ J hJ
  rcases Nat.lt_or_ge j L.length with hjl | hjl
  · have hne := hne (by omega)
    have hat := cellsL_at (f := rwc) rwc_len L default j hjl
    have hmem : L.getD j default ∈ L := by simp [List.getD, hjl]
    have htk : L.take (j + 1) = L.take j ++ [L.getD j default] := by rw [List.take_succ_eq_append_getElem hjl]; simp [List.getD, hjl]
    have hsp : L = L.take j ++ L.getD j default :: L.drop (j + 1) := by
      conv => lhs; rw [← List.take_append_drop j L, List.drop_eq_getElem_cons hjl]
      simp [List.getD, hjl]
    obtain ⟨x, hx⟩ : ∃ x, L.getD j default = x := ⟨_, rfl⟩
    rw [hx] at hat hmem htk hsp
    obtain ⟨r, hr⟩ : ∃ r, p x = r := ⟨_, rfl⟩
    cases r
    · focus (refine S_seq rfl ?_; refine S_region rfl rfl ?_; refine R_take (T_decT rfl (by omega)) ?_ rfl rfl; refine R_nil ?_; refine S_seq rfl ?_; refine S_true rfl rfl ?_; refine S_skip rfl ?_; refine S_seq rfl ?_; refine S_block rfl ?_; refine S_seq rfl ?_; refine S_region rfl rfl ?_; refine R_p rfl ?_ rfl rfl; refine R_p rfl ?_ rfl rfl; refine R_nil ?_; refine S_seq rfl ?_; refine S_region rfl rfl ?_; refine R_p rfl ?_ rfl rfl; refine R_p rfl ?_ rfl rfl; refine R_p rfl ?_ rfl rfl; refine R_take (T_ixM (sz := 2) rfl rfl rfl rfl rfl rfl hne hjl) ?_ rfl rfl; refine R_take (T_lda (ds := rwc x) rfl rfl rfl (Srd.old h (fun k _ => noOwns k)) rfl (by omega) hat) ?_ rfl rfl; (refine R_eff (E_cloA (cap := cap) rfl (E_gv0 hf (ogets_cap _ _ (.agg (rwc x).toArray) rfl cap) (fun w' hS => hp w' hS.kpO x hmem) (fun _ => rfl))) ?_ rfl rfl; rintro _ _ ⟨_, rfl, _, rfl⟩; rw [hr]); refine R_nil ?_; refine S_false rfl rfl ?_; refine S_skip rfl ?_; refine RS_blk ?_; refine S_region rfl rfl ?_; refine R_take (T_addN rfl rfl (by unfold fits; omega)) ?_ rfl rfl; refine R_p rfl ?_ rfl rfl; refine R_nil ?_)
      exact hJ (j + 1) _ _ ⟨by omega, by rw [htk, List.all_append, hok]; simp [hr]⟩ (Sub.cons rfl (Sub.cons rfl (Sub.cons rfl (Sub.cons rfl Sub.nil)))) (fun _ h => h) (by omega)
    · focus (refine S_seq rfl ?_; refine S_region rfl rfl ?_; refine R_take (T_decT rfl (by omega)) ?_ rfl rfl; refine R_nil ?_; refine S_seq rfl ?_; refine S_true rfl rfl ?_; refine S_skip rfl ?_; refine S_seq rfl ?_; refine S_block rfl ?_; refine S_seq rfl ?_; refine S_region rfl rfl ?_; refine R_p rfl ?_ rfl rfl; refine R_p rfl ?_ rfl rfl; refine R_nil ?_; refine S_seq rfl ?_; refine S_region rfl rfl ?_; refine R_p rfl ?_ rfl rfl; refine R_p rfl ?_ rfl rfl; refine R_p rfl ?_ rfl rfl; refine R_take (T_ixM (sz := 2) rfl rfl rfl rfl rfl rfl hne hjl) ?_ rfl rfl; refine R_take (T_lda (ds := rwc x) rfl rfl rfl (Srd.old h (fun k _ => noOwns k)) rfl (by omega) hat) ?_ rfl rfl; (refine R_eff (E_cloA (cap := cap) rfl (E_gv0 hf (ogets_cap _ _ (.agg (rwc x).toArray) rfl cap) (fun w' hS => hp w' hS.kpO x hmem) (fun _ => rfl))) ?_ rfl rfl; rintro _ _ ⟨_, rfl, _, rfl⟩; rw [hr]); refine R_nil ?_; refine S_true rfl rfl ?_; refine S_seq rfl ?_; refine S_region rfl rfl ?_; refine R_p rfl ?_ rfl rfl; refine R_p rfl ?_ rfl rfl; refine R_nil ?_)
      refine hB _ _ _ _ _ rfl rfl fun w' hS => ⟨(), ?_, trivial, hS.sublist (List.nil_sublist _)⟩
      show Value.int _ _ = Value.int _ _
      congr 1
      have h1 : ¬ L.all (fun x => !p x) = true := by
        rw [List.all_eq_true]
        intro h
        have := h x hmem
        rw [hr] at this
        cases this
      rw [idxR, if_neg h1, hsp, List.findIdx_append]
      have h2 : (L.take j).findIdx p = (L.take j).length := by
        rw [List.findIdx_eq_length]
        intro y hy
        have := List.all_eq_true.1 hok y hy
        simpa using this
      rw [h2, if_neg (Nat.lt_irrefl _), List.findIdx_cons, hr]
      simp
      omega
  have hjn : j = L.length := by omega
  subst hjn
  rw [List.take_length] at hok
  focus (refine S_seq rfl ?_; refine S_region rfl rfl ?_; refine R_take (T_decF rfl (by omega)) ?_ rfl rfl; refine R_nil ?_; refine S_seq rfl ?_; refine S_false rfl rfl ?_; refine S_exit rfl rfl ?_; refine S_seq rfl ?_; refine S_region rfl rfl ?_; refine R_p rfl ?_ rfl rfl; refine R_nil ?_)
  refine hB _ _ _ _ _ rfl rfl fun w' hS => ⟨(), ?_, trivial, hS.sublist (List.nil_sublist _)⟩
  rw [idxR, if_pos hok]
  rfl
set_option maxRecDepth 100000 in
set_option maxHeartbeats 4000000 in
theorem confR_any (w : World) (A : Option Addr) (n c f : Nat) (cap : List Value) (L : List Rw) (p : Rw → Bool) (h : Rd w All 2 A n (cellsL rwc L)) (hn : n ≤ 100000) (hf : Fn_ Try.prog f)
    (hp : ∀ w', Kp All w w' → ∀ x ∈ L, Gives Try.prog f (.agg (rwc x).toArray :: cap) [] w' (X := Unit) (fun _ => .bool (p x)) (fun _ => True) (fun _ => [])) :
    Gives Try.prog 38 [.slice A n c, .func (.func f) #[] cap.toArray] [] w (X := Unit) (fun _ => .bool (!L.all (fun x => !p x))) (fun _ => True) (fun _ => []) := by
  refine gives_S Try.func38 rfl Try.ntmps38 Try.results38 (by simp) (St.enter w) (fun B hB => ?_)
  focus (refine S_seq rfl ?_; refine S_region rfl rfl ?_; refine R_p rfl ?_ rfl rfl; refine R_nil ?_; refine S_seq rfl ?_; refine S_region rfl rfl ?_; refine R_p rfl ?_ rfl rfl; refine R_p rfl ?_ rfl rfl; (refine R_eff (E_gv0 (f := 48) ⟨_, Try.func48, rfl, by kernel_rfl⟩ rfl (fun w hS => idxfR_any w A n c f cap L p ((Srd.old h (fun k _ => noOwns k)).rd w hS) hn hf (fun w' hk x hx => hp w' (hS.kpO.trans hk) x hx)) (fun _ => rfl)) ?_ rfl rfl; rintro _ _ ⟨_, rfl, _, rfl⟩); refine R_p rfl ?_ rfl rfl; refine R_p rfl ?_ rfl rfl; refine R_nil ?_)
  refine hB _ _ _ _ _ rfl rfl fun w' hS => ⟨(), ?_, trivial, hS.sublist (List.nil_sublist _)⟩
  refine congrArg Value.bool ?_
  rw [idxR]
  cases L.all (fun x => !p x)
  · simp
  · simp
/-- where one is, of which something is so -/
def idxC (p : Ch → Bool) (L : List Ch) : Int := if L.all (fun x => !p x) then -1 else (L.findIdx p : Nat)
set_option maxRecDepth 100000 in
set_option maxHeartbeats 4000000 in
theorem idxfC_any (w : World) (A : Option Addr) (n c f : Nat) (cap : List Value) (L : List Ch) (p : Ch → Bool) (h : Rd w All 3 A n (cellsL chc L)) (hn : n ≤ 100000) (hf : Fn_ Try.prog f)
    (hp : ∀ w', Kp All w w' → ∀ x ∈ L, Gives Try.prog f (.agg (chc x).toArray :: cap) [] w' (X := Unit) (fun _ => .bool (p x)) (fun _ => True) (fun _ => [])) :
    Gives Try.prog 56 [.slice A n c, .func (.func f) #[] cap.toArray] [] w (X := Unit) (fun _ => zi (idxC p L)) (fun _ => True) (fun _ => []) := by
  refine gives_S Try.func56 rfl Try.ntmps56 Try.results56 (by simp) (St.enter w) (fun B hB => ?_)
  have hl : L.length = n := by have := h.1; rw [cellsL_len chc_len] at this; omega
  have hne : 0 < n → A ≠ none := fun h0 => by obtain ⟨ad, rfl, _⟩ := h.2 (by omega); simp
  subst hl
  focus (refine S_seq rfl ?_; refine S_region rfl rfl ?_; refine R_p rfl ?_ rfl rfl; refine R_nil ?_; refine S_seq rfl ?_; refine S_seq rfl ?_; refine S_region rfl rfl ?_; refine R_p rfl ?_ rfl rfl; refine R_p rfl ?_ rfl rfl; refine R_p rfl ?_ rfl rfl; refine R_nil ?_; refine S_block rfl ?_)
  refine S_loop (X := Nat) (fun j => [(0, .slice A L.length c), (1, .func (.func f) #[] cap.toArray), (7, .int .i64 (L.length : Int)), (8, .int .i64 (j : Int))]) (fun _ => []) (fun j => j ≤ L.length ∧ (L.take j).all (fun x => !p x) = true) (fun j => L.length - j) rfl 0 ⟨Nat.zero_le _, rfl⟩ (Sub.cons rfl (Sub.cons rfl (Sub.cons rfl (Sub.cons rfl Sub.nil)))) (fun _ h => h) ?_
  rintro j ⟨hj, hok⟩ J hJ
  rcases Nat.lt_or_ge j L.length with hjl | hjl
  · have hne := hne (by omega)
    have hat := cellsL_at (f := chc) chc_len L default j hjl
    have hmem : L.getD j default ∈ L := by simp [List.getD, hjl]
    have htk : L.take (j + 1) = L.take j ++ [L.getD j default] := by rw [List.take_succ_eq_append_getElem hjl]; simp [List.getD, hjl]
    have hsp : L = L.take j ++ L.getD j default :: L.drop (j + 1) := by
      conv => lhs; rw [← List.take_append_drop j L, List.drop_eq_getElem_cons hjl]
      simp [List.getD, hjl]
    obtain ⟨x, hx⟩ : ∃ x, L.getD j default = x := ⟨_, rfl⟩
    rw [hx] at hat hmem htk hsp
    obtain ⟨r, hr⟩ : ∃ r, p x = r := ⟨_, rfl⟩
    cases r
    · focus (refine S_seq rfl ?_; refine S_region rfl rfl ?_; refine R_take (T_decT rfl (by omega)) ?_ rfl rfl; refine R_nil ?_; refine S_seq rfl ?_; refine S_true rfl rfl ?_; refine S_skip rfl ?_; refine S_seq rfl ?_; refine S_block rfl ?_; refine S_seq rfl ?_; refine S_region rfl rfl ?_; refine R_p rfl ?_ rfl rfl; refine R_p rfl ?_ rfl rfl; refine R_nil ?_; refine S_seq rfl ?_; refine S_region rfl rfl ?_; refine R_p rfl ?_ rfl rfl; refine R_p rfl ?_ rfl rfl; refine R_p rfl ?_ rfl rfl; refine R_take (T_ixM (sz := 3) rfl rfl rfl rfl rfl rfl hne hjl) ?_ rfl rfl; refine R_take (T_lda (ds := chc x) rfl rfl rfl (Srd.old h (fun k _ => noOwns k)) rfl (by omega) hat) ?_ rfl rfl; (refine R_eff (E_cloA (cap := cap) rfl (E_gv0 hf (ogets_cap _ _ (.agg (chc x).toArray) rfl cap) (fun w' hS => hp w' hS.kpO x hmem) (fun _ => rfl))) ?_ rfl rfl; rintro _ _ ⟨_, rfl, _, rfl⟩; rw [hr]); refine R_nil ?_; refine S_false rfl rfl ?_; refine S_skip rfl ?_; refine RS_blk ?_; refine S_region rfl rfl ?_; refine R_take (T_addN rfl rfl (by unfold fits; omega)) ?_ rfl rfl; refine R_p rfl ?_ rfl rfl; refine R_nil ?_)
      exact hJ (j + 1) _ _ ⟨by omega, by rw [htk, List.all_append, hok]; simp [hr]⟩ (Sub.cons rfl (Sub.cons rfl (Sub.cons rfl (Sub.cons rfl Sub.nil)))) (fun _ h => h) (by omega)
    · focus (refine S_seq rfl ?_; refine S_region rfl rfl ?_; refine R_take (T_decT rfl (by omega)) ?_ rfl rfl; refine R_nil ?_; refine S_seq rfl ?_; refine S_true rfl rfl ?_; refine S_skip rfl ?_; refine S_seq rfl ?_; refine S_block rfl ?_; refine S_seq rfl ?_; refine S_region rfl rfl ?_; refine R_p rfl ?_ rfl rfl; refine R_p rfl ?_ rfl rfl; refine R_nil ?_; refine S_seq rfl ?_; refine S_region rfl rfl ?_; refine R_p rfl ?_ rfl rfl; refine R_p rfl ?_ rfl rfl; refine R_p rfl ?_ rfl rfl; refine R_take (T_ixM (sz := 3) rfl rfl rfl rfl rfl rfl hne hjl) ?_ rfl rfl; refine R_take (T_lda (ds := chc x) rfl rfl rfl (Srd.old h (fun k _ => noOwns k)) rfl (by omega) hat) ?_ rfl rfl; (refine R_eff (E_cloA (cap := cap) rfl (E_gv0 hf (ogets_cap _ _ (.agg (chc x).toArray) rfl cap) (fun w' hS => hp w' hS.kpO x hmem) (fun _ => rfl))) ?_ rfl rfl; rintro _ _ ⟨_, rfl, _, rfl⟩; rw [hr]); refine R_nil ?_; refine S_true rfl rfl ?_; refine S_seq rfl ?_; refine S_region rfl rfl ?_; refine R_p rfl ?_ rfl rfl; refine R_p rfl ?_ rfl rfl; refine R_nil ?_)
      refine hB _ _ _ _ _ rfl rfl fun w' hS => ⟨(), ?_, trivial, hS.sublist (List.nil_sublist _)⟩
      show Value.int _ _ = Value.int _ _
      congr 1
      have h1 : ¬ L.all (fun x => !p x) = true := by
        rw [List.all_eq_true]
        intro h
        have := h x hmem
        rw [hr] at this
        cases this
      rw [idxC, if_neg h1, hsp, List.findIdx_append]
      have h2 : (L.take j).findIdx p = (L.take j).length := by
        rw [List.findIdx_eq_length]
        intro y hy
        have := List.all_eq_true.1 hok y hy
        simpa using this
      rw [h2, if_neg (Nat.lt_irrefl _), List.findIdx_cons, hr]
      simp
      omega
  have hjn : j = L.length := by omega
  subst hjn
  rw [List.take_length] at hok
  focus (refine S_seq rfl ?_; refine S_region rfl rfl ?_; refine R_take (T_decF rfl (by omega)) ?_ rfl rfl; refine R_nil ?_; refine S_seq rfl ?_; refine S_false rfl rfl ?_; refine S_exit rfl rfl ?_; refine S_seq rfl ?_; refine S_region rfl rfl ?_; refine R_p rfl ?_ rfl rfl; refine R_nil ?_)
  refine hB _ _ _ _ _ rfl rfl fun w' hS => ⟨(), ?_, trivial, hS.sublist (List.nil_sublist _)⟩
  rw [idxC, if_pos hok]
  rfl
set_option maxRecDepth 100000 in
set_option maxHeartbeats 4000000 in
theorem confC_any (w : World) (A : Option Addr) (n c f : Nat) (cap : List Value) (L : List Ch) (p : Ch → Bool) (h : Rd w All 3 A n (cellsL chc L)) (hn : n ≤ 100000) (hf : Fn_ Try.prog f)
    (hp : ∀ w', Kp All w w' → ∀ x ∈ L, Gives Try.prog f (.agg (chc x).toArray :: cap) [] w' (X := Unit) (fun _ => .bool (p x)) (fun _ => True) (fun _ => [])) :
    Gives Try.prog 42 [.slice A n c, .func (.func f) #[] cap.toArray] [] w (X := Unit) (fun _ => .bool (!L.all (fun x => !p x))) (fun _ => True) (fun _ => []) := by
  refine gives_S Try.func42 rfl Try.ntmps42 Try.results42 (by simp) (St.enter w) (fun B hB => ?_)
  focus (refine S_seq rfl ?_; refine S_region rfl rfl ?_; refine R_p rfl ?_ rfl rfl; refine R_nil ?_; refine S_seq rfl ?_; refine S_region rfl rfl ?_; refine R_p rfl ?_ rfl rfl; refine R_p rfl ?_ rfl rfl; (refine R_eff (E_gv0 (f := 56) ⟨_, Try.func56, rfl, by kernel_rfl⟩ rfl (fun w hS => idxfC_any w A n c f cap L p ((Srd.old h (fun k _ => noOwns k)).rd w hS) hn hf (fun w' hk x hx => hp w' (hS.kpO.trans hk) x hx)) (fun _ => rfl)) ?_ rfl rfl; rintro _ _ ⟨_, rfl, _, rfl⟩); refine R_p rfl ?_ rfl rfl; refine R_p rfl ?_ rfl rfl; refine R_nil ?_)
  refine hB _ _ _ _ _ rfl rfl fun w' hS => ⟨(), ?_, trivial, hS.sublist (List.nil_sublist _)⟩
  refine congrArg Value.bool ?_
  rw [idxC]
  cases L.all (fun x => !p x)
  · simp
  · simp
end Go.Proofs.Ytebbnbddlnpldaa
