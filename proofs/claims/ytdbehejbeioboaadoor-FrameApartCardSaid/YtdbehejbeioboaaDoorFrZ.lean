/- What is told of logs and of slices in other chapters. -/
import Derived.Test.YtdbehejbeioboaaDoorLg2
import Derived.Test.YtdbehejbeioboaaDoorRkZ2
import Derived.Test.YtdbehejbeioboaaDoorOcZ
namespace Go.Proofs.YtdbehejbeioboaaDoor
open Go.RowKit
open Asn (pt row rb)
set_option linter.unusedVariables false
set_option linter.unusedSimpArgs false
--@use N

def zv (n : Int) : Value := .int .i64 n
theorem zv_at {l : List Int} {j : Nat} (h : j < l.length) : (l.map zv)[j]? = some (zv (l.getD j 0)) := by
  simp [List.getD, h]
theorem take2_succ {a b : List Int} (hl : a.length = b.length) {j : Nat} (hj : j < a.length) : a.take (j + 1) = b.take (j + 1) ↔ a.take j = b.take j ∧ a.getD j 0 = b.getD j 0 := by
  rw [List.take_succ_eq_append_getElem hj, List.take_succ_eq_append_getElem (by omega)]
  have e1 : a.getD j 0 = a[j] := by simp [List.getD, hj]
  have e2 : b.getD j 0 = b[j]'(by omega) := by simp [List.getD, show j < b.length by omega]
  rw [e1, e2]
  constructor
  · intro h
    have := List.append_inj h (by simp [hl])
    exact ⟨this.1, by simpa using this.2⟩
  · rintro ⟨h1, h2⟩
    rw [h1, h2]
set_option maxRecDepth 100000 in
set_option maxHeartbeats 4000000 in
theorem eql_any (w : World) (A A2 : Option Addr) (n c n2 c2 : Nat) (ms ks : List Int) (h : Rd w All 1 A n (ms.map zv)) (h2 : Rd w All 1 A2 n2 (ks.map zv)) (hn : n ≤ 1000) (hn2 : n2 ≤ 1000) :
    Gives Tryd.prog 49 [.slice A n c, .slice A2 n2 c2] [] w (X := Unit) (fun _ => .bool (decide (ms = ks))) (fun _ => True) (fun _ => []) := by
  refine gives_S Tryd.func49 rfl Tryd.ntmps49 Tryd.results49 (by simp) (St.enter w) (fun B hB => ?_)
  have hl : ms.length = n := by have := h.1; simpa using this
  have hl2 : ks.length = n2 := by have := h2.1; simpa using this
  have hne : 0 < n → A ≠ none := fun h0 => by obtain ⟨ad, rfl, _⟩ := h.2 h0; simp
  have hne2 : 0 < n2 → A2 ≠ none := fun h0 => by obtain ⟨ad, rfl, _⟩ := h2.2 h0; simp
  subst hl hl2
  have hld : ∀ j, j < ms.length → (ms.map zv)[j]? = some (zv (ms.getD j 0)) := fun j hj => zv_at hj
  have hld2 : ∀ j, j < ks.length → (ks.map zv)[j]? = some (zv (ks.getD j 0)) := fun j hj => zv_at hj
  by_cases hlen : ms.length = ks.length
  · skip
    focus (refine S_seq rfl ?_; refine S_region rfl rfl ?_; refine R_p rfl ?_ rfl rfl; refine R_nil ?_; refine S_seq rfl ?_; refine S_seq rfl (S_region rfl rfl ?_); (iterate 4 refine R_p rfl ?_ rfl rfl); refine R_take (T_decF rfl (by omega)) ?_ rfl rfl; refine R_nil ?_; refine S_false rfl rfl ?_; refine S_skip rfl ?_; refine S_seq rfl ?_; refine S_seq rfl (S_region rfl rfl ?_); (iterate 3 refine R_p rfl ?_ rfl rfl); refine R_nil ?_; refine S_block rfl ?_)
    refine S_loop (X := Nat) (fun j => [(0, .slice A ms.length c), (1, .slice A2 ks.length c2), (12, .int .i64 (ms.length : Int)), (13, .int .i64 (j : Int))]) (fun _ => _) (fun j => j ≤ ms.length ∧ ms.take j = ks.take j) (fun j => ms.length - j) rfl 0 ⟨Nat.zero_le _, rfl⟩ (Sub.cons rfl (Sub.cons rfl (Sub.cons rfl (Sub.cons rfl Sub.nil)))) (fun _ h => h) ?_
    rintro j ⟨hj, htk⟩ J hJ
    rcases Nat.lt_or_ge j ms.length with hjl | hjl
    · focus (refine S_seq rfl ?_; refine S_region rfl rfl ?_; refine R_p rfl ?_ rfl rfl; refine R_nil ?_; refine S_seq rfl ?_; (refine S_if rfl rfl (fun hs => ?_) (fun hs => ?_)); refine S_skip rfl ?_; refine S_seq rfl ?_; refine S_block rfl ?_; refine S_seq rfl (S_region rfl rfl ?_); (iterate 2 refine R_p rfl ?_ rfl rfl); refine R_nil ?_; refine S_seq rfl ?_; (refine S_draw _ (fun _ h => h) (by kernel_rfl) rfl (by kernel_rfl) (rfl : _ = 9) ?_; (refine D_take 0 rfl (pev_ok rfl) ?_ rfl rfl (by kernel_rfl) (by kernel_rfl)); (refine D_take 1 rfl (pev_ok rfl) ?_ rfl rfl (by kernel_rfl) (by kernel_rfl)); (refine D_take 2 rfl (T_ixN rfl rfl rfl rfl rfl rfl (by first | assumption | exact hne (by omega) | exact hne2 (by omega)) (by omega)) ?_ rfl rfl (by kernel_rfl) (by kernel_rfl)); (refine D_take 3 rfl (T_ldr rfl rfl rfl (Srd.old h (fun k _ => noOwns k)) (by omega) (hld j (by omega))) ?_ rfl rfl (by kernel_rfl) (by kernel_rfl)); (refine D_take 4 rfl (pev_ok rfl) ?_ rfl rfl (by kernel_rfl) (by kernel_rfl)); (refine D_take 5 rfl (pev_ok rfl) ?_ rfl rfl (by kernel_rfl) (by kernel_rfl)); (refine D_take 6 rfl (T_ixN rfl rfl rfl rfl rfl rfl (by first | assumption | exact hne (by omega) | exact hne2 (by omega)) (by omega)) ?_ rfl rfl (by kernel_rfl) (by kernel_rfl)); (refine D_take 7 rfl (T_ldr rfl rfl rfl (Srd.old h2 (fun k _ => noOwns k)) (by omega) (hld2 j (by omega))) ?_ rfl rfl (by kernel_rfl) (by kernel_rfl)); (refine D_take 8 rfl (pev_ok rfl) ?_ rfl rfl (by kernel_rfl) (by kernel_rfl)); refine D_done ?_ (by kernel_rfl)); (refine S_if rfl rfl (fun hs => ?_) (fun hs => ?_)); refine S_seq rfl (S_region rfl rfl ?_); refine R_p rfl ?_ rfl rfl; refine R_nil ?_; rotate_left; refine S_skip rfl ?_; refine RS_blk ?_; refine S_region rfl rfl ?_; refine R_take (T_addN rfl rfl (by unfold fits; omega)) ?_ rfl rfl; refine R_p rfl ?_ rfl rfl; refine R_nil ?_; rotate_left; refine S_exit rfl rfl ?_; refine S_seq rfl (S_region rfl rfl ?_); refine R_p rfl ?_ rfl rfl; refine R_nil ?_; rotate_left)
      all_goals (try (exfalso; omega))
      · refine hB _ _ _ _ _ rfl rfl fun w' hS => ⟨(), ?_, trivial, hS.sublist (List.nil_sublist _)⟩
        rw [decide_eq_false]
        · rfl
        · rintro rfl; simp_all
      · refine hJ (j + 1) _ _ ⟨by omega, (take2_succ hlen hjl).2 ⟨htk, by simp_all⟩⟩ (Sub.cons rfl (Sub.cons rfl (Sub.cons rfl (Sub.cons rfl Sub.nil)))) (fun _ h => h) (by omega)
    · skip
      focus (refine S_seq rfl ?_; refine S_region rfl rfl ?_; refine R_take (T_decF rfl (by omega)) ?_ rfl rfl; refine R_nil ?_; refine S_seq rfl ?_; refine S_false rfl rfl ?_; refine S_exit rfl rfl ?_; refine S_seq rfl (S_region rfl rfl ?_); refine R_p rfl ?_ rfl rfl; refine R_nil ?_)
      all_goals (try (exfalso; omega))
      have hjn : j = ms.length := by omega
      subst hjn
      refine hB _ _ _ _ _ rfl rfl fun w' hS => ⟨(), ?_, trivial, hS.sublist (List.nil_sublist _)⟩
      rw [decide_eq_true]
      · rfl
      · rw [List.take_length, hlen, List.take_length] at htk
        exact htk
  · skip
    focus (refine S_seq rfl ?_; refine S_region rfl rfl ?_; refine R_p rfl ?_ rfl rfl; refine R_nil ?_; refine S_seq rfl ?_; refine S_seq rfl (S_region rfl rfl ?_); (iterate 4 refine R_p rfl ?_ rfl rfl); refine R_take (T_decT rfl (by omega)) ?_ rfl rfl; refine R_nil ?_; refine S_true rfl rfl ?_; refine S_seq rfl (S_region rfl rfl ?_); refine R_p rfl ?_ rfl rfl; refine R_nil ?_)
    all_goals (try (exfalso; omega))
    refine hB _ _ _ _ _ rfl rfl fun w' hS => ⟨(), ?_, trivial, hS.sublist (List.nil_sublist _)⟩
    rw [decide_eq_false]
    · rfl
    · rintro rfl; exact hlen rfl
def chkE (a : At) (l : List En) (top : Nat) : Int := if rightB a l = true then (if top < (lastA a l).2 then 2 else 0) else 220
set_option maxRecDepth 100000 in
set_option maxHeartbeats 4000000 in
theorem checkL_any (w : World) (a : At) (A : Option Addr) (c : Nat) (Q : List Em) (h : Rd w All 3 A Q.length (cellsL emc Q)) (hn : Q.length ≤ 1000) (top : Nat) :
    Gives Tryd.prog 28 [.agg (lgc a A Q.length c).toArray, .int .u64 (top : Int)] [] w (X := Unit) (fun _ => zi (chkE a (Q.map emv) top)) (fun _ => True) (fun _ => []) := by
  refine gives_S Tryd.func28 rfl Tryd.ntmps28 Tryd.results28 (by simp) (St.enter w) (fun B hB => ?_)
  obtain ⟨i, t⟩ := a
  obtain ⟨r, hr⟩ : ∃ r, rightB (i, t) (Q.map emv) = r := ⟨_, rfl⟩
  obtain ⟨⟨li, lu⟩, hla⟩ : ∃ x, lastA (i, t) (Q.map emv) = x := ⟨_, rfl⟩
  have hs : chkE (i, t) (Q.map emv) top = if r = true then (if top < lu then 2 else 0) else 220 := by rw [chkE, hr, hla]
  rw [hs] at hB
  cases r
  · focus (refine S_seq rfl ?_; refine S_region rfl rfl ?_; (refine R_eff (E_boxa (cs := lgc (i, t) A Q.length c) rfl) ?_ rfl rfl; rintro _ _ ⟨b2, rfl, rfl⟩); refine R_p rfl ?_ rfl rfl; refine R_nil ?_; refine S_seq rfl ?_; refine S_block rfl ?_; refine S_seq rfl (S_region rfl rfl ?_); refine R_take (T_loads (ds := lgc (i, t) A Q.length c) rfl rfl rfl rfl rfl) ?_ rfl rfl; ((refine R_eff (E_hv0 (f := 59) ⟨_, Tryd.func59, rfl, by kernel_rfl⟩ (fun w hS => right_any w (i, t) A c Q ((Srd.old h (fun k _ => noOwns k)).rd w hS) (by omega)) rfl rfl (fun _ => rfl)) ?_ rfl rfl; rintro _ _ ⟨_, rfl, _, rfl⟩); rw [hr]); refine R_take (T_not rfl) ?_ rfl rfl; refine R_take (T_decT rfl (by omega)) ?_ rfl rfl; refine R_nil ?_; refine S_true rfl rfl ?_; refine S_seq rfl (S_region rfl rfl ?_); refine R_p rfl ?_ rfl rfl; refine R_nil ?_)
    exact hB _ _ _ _ _ rfl rfl fun w' hS => ⟨(), rfl, trivial, hS.sublist (List.nil_sublist _)⟩
  have hff := right_fits hr
  rw [List.length_map] at hff
  have hfit : (i, t).1 + Q.length ≤ 18446744073709551615 := by show i + _ ≤ _; have : i + Q.length ≤ _ := hff.2; omega
  rw [if_pos rfl] at hB
  by_cases ht : top < lu
  · rw [if_pos ht] at hB
    focus (refine S_seq rfl ?_; refine S_region rfl rfl ?_; (refine R_eff (E_boxa (cs := lgc (i, t) A Q.length c) rfl) ?_ rfl rfl; rintro _ _ ⟨b2, rfl, rfl⟩); refine R_p rfl ?_ rfl rfl; refine R_nil ?_; refine S_seq rfl ?_; refine S_block rfl ?_; refine S_seq rfl (S_region rfl rfl ?_); refine R_take (T_loads (ds := lgc (i, t) A Q.length c) rfl rfl rfl rfl rfl) ?_ rfl rfl; ((refine R_eff (E_hv0 (f := 59) ⟨_, Tryd.func59, rfl, by kernel_rfl⟩ (fun w hS => right_any w (i, t) A c Q ((Srd.old h (fun k _ => noOwns k)).rd w hS) (by omega)) rfl rfl (fun _ => rfl)) ?_ rfl rfl; rintro _ _ ⟨_, rfl, _, rfl⟩); rw [hr]); refine R_take (T_not rfl) ?_ rfl rfl; refine R_p rfl ?_ rfl rfl; refine R_nil ?_; refine S_false rfl rfl ?_; refine S_seq rfl (S_region rfl rfl ?_); refine R_take (T_loads (ds := lgc (i, t) A Q.length c) rfl rfl rfl rfl rfl) ?_ rfl rfl; ((refine R_eff (E_hv0 (f := 60) ⟨_, Tryd.func60, rfl, by kernel_rfl⟩ (fun w hS => last_any w (i, t) A c Q ((Srd.old h (fun k _ => noOwns k)).rd w hS) (by omega) hfit) rfl rfl (fun _ => rfl)) ?_ rfl rfl; rintro _ _ ⟨_, rfl, _, rfl⟩); rw [hla]); refine R_take (T_fldv (xs := atc (li, lu)) rfl rfl rfl rfl rfl rfl) ?_ rfl rfl; refine R_p rfl ?_ rfl rfl; refine R_take (T_decT rfl (by omega)) ?_ rfl rfl; refine R_take (T_decT rfl (by omega)) ?_ rfl rfl; refine R_nil ?_; refine S_true rfl rfl ?_; refine S_seq rfl (S_region rfl rfl ?_); refine R_p rfl ?_ rfl rfl; refine R_nil ?_)
    exact hB _ _ _ _ _ rfl rfl fun w' hS => ⟨(), rfl, trivial, hS.sublist (List.nil_sublist _)⟩
  · rw [if_neg ht] at hB
    focus (refine S_seq rfl ?_; refine S_region rfl rfl ?_; (refine R_eff (E_boxa (cs := lgc (i, t) A Q.length c) rfl) ?_ rfl rfl; rintro _ _ ⟨b2, rfl, rfl⟩); refine R_p rfl ?_ rfl rfl; refine R_nil ?_; refine S_seq rfl ?_; refine S_block rfl ?_; refine S_seq rfl (S_region rfl rfl ?_); refine R_take (T_loads (ds := lgc (i, t) A Q.length c) rfl rfl rfl rfl rfl) ?_ rfl rfl; ((refine R_eff (E_hv0 (f := 59) ⟨_, Tryd.func59, rfl, by kernel_rfl⟩ (fun w hS => right_any w (i, t) A c Q ((Srd.old h (fun k _ => noOwns k)).rd w hS) (by omega)) rfl rfl (fun _ => rfl)) ?_ rfl rfl; rintro _ _ ⟨_, rfl, _, rfl⟩); rw [hr]); refine R_take (T_not rfl) ?_ rfl rfl; refine R_p rfl ?_ rfl rfl; refine R_nil ?_; refine S_false rfl rfl ?_; refine S_seq rfl (S_region rfl rfl ?_); refine R_take (T_loads (ds := lgc (i, t) A Q.length c) rfl rfl rfl rfl rfl) ?_ rfl rfl; ((refine R_eff (E_hv0 (f := 60) ⟨_, Tryd.func60, rfl, by kernel_rfl⟩ (fun w hS => last_any w (i, t) A c Q ((Srd.old h (fun k _ => noOwns k)).rd w hS) (by omega) hfit) rfl rfl (fun _ => rfl)) ?_ rfl rfl; rintro _ _ ⟨_, rfl, _, rfl⟩); rw [hla]); refine R_take (T_fldv (xs := atc (li, lu)) rfl rfl rfl rfl rfl rfl) ?_ rfl rfl; refine R_p rfl ?_ rfl rfl; refine R_take (T_decF rfl (by omega)) ?_ rfl rfl; refine R_p rfl ?_ rfl rfl; refine R_nil ?_; refine S_false rfl rfl ?_; refine S_skip rfl ?_; refine RS_blk ?_; refine S_seq rfl (S_region rfl rfl ?_); refine R_p rfl ?_ rfl rfl; refine R_nil ?_)
    exact hB _ _ _ _ _ rfl rfl fun w' hS => ⟨(), rfl, trivial, hS.sublist (List.nil_sublist _)⟩
theorem check_k (w : World) (a : At) (A : Option Addr) (c k : Nat) (Q : List Em) (l : List En) (hk : Q.length = k) (hl : Q.map emv = l) (h : Rd w All 3 A k (cellsL emc Q)) (hn : k ≤ 1000) (top : Nat) (r : Int) (hr : chkE a l top = r) :
    Gives Tryd.prog 28 [.agg (lgc a A k c).toArray, .int .u64 (top : Int)] [] w (X := Unit) (fun _ => zi r) (fun _ => True) (fun _ => []) := by
  subst hk
  subst hl
  subst hr
  exact checkL_any w a A c Q h hn top
set_option maxRecDepth 100000 in
set_option maxHeartbeats 4000000 in
theorem rightEntry_any (w : World) (m : Em) :
    Gives Tryd.prog 32 [.agg (emc m).toArray] [] w (X := Unit) (fun _ => .bool (placedB (emv m))) (fun _ => True) (fun _ => []) := by
  refine gives_S Tryd.func32 rfl Tryd.ntmps32 Tryd.results32 (by simp) (St.enter w) (fun B hB => ?_)
  obtain ⟨t, k, A, c, l⟩ := m
  obtain ⟨n, hn⟩ : ∃ n, l.length = n := ⟨_, rfl⟩
  have hp : placedB (emv (t, k, A, c, l)) = if k = 1 then decide (0 < t) && decide (n = 0) else if k = 2 ∨ k = 3 then decide (0 < t) && decide (n ≤ 1024) else false := by rw [← hn]; rfl
  rw [hp] at hB
  rw [show (emc (t, k, A, c, l)) = [.int .u64 (t : Int), .int .i64 k, .slice A n c] by rw [← hn]; rfl]
  by_cases h2 : 0 < t
  · rw [decide_eq_true h2, Bool.true_and, Bool.true_and] at hB
    by_cases h1 : k = 1
    · rw [if_pos h1] at hB
      by_cases h3 : n = 0
      · rw [decide_eq_true h3] at hB
        focus (refine S_seq rfl ?_; refine S_region rfl rfl ?_; (refine R_eff (E_boxa (cs := [.int .u64 (t : Int), .int .i64 k, .slice A n c]) rfl) ?_ rfl rfl; rintro _ _ ⟨b1, rfl, rfl⟩); refine R_p rfl ?_ rfl rfl; refine R_nil (S_seq rfl (S_region rfl rfl ?_)); refine R_p rfl ?_ rfl rfl; refine R_take (T_load rfl rfl rfl rfl) ?_ rfl rfl; refine R_take (T_decT rfl (by omega)) ?_ rfl rfl; (iterate 2 refine R_p rfl ?_ rfl rfl); refine R_take (T_load rfl rfl rfl rfl) ?_ rfl rfl; refine R_take (T_decT rfl (by omega)) ?_ rfl rfl; (iterate 2 refine R_p rfl ?_ rfl rfl); refine R_take (T_load rfl rfl rfl rfl) ?_ rfl rfl; refine R_p rfl ?_ rfl rfl; refine R_take (T_decT rfl (by omega)) ?_ rfl rfl; (iterate 2 refine R_p rfl ?_ rfl rfl); (iterate 3 refine R_skip ?_ rfl rfl); (iterate 2 refine R_p rfl ?_ rfl rfl); (iterate 3 refine R_skip ?_ rfl rfl); (iterate 4 refine R_p rfl ?_ rfl rfl); refine R_take (T_load rfl rfl rfl rfl) ?_ rfl rfl; refine R_p rfl ?_ rfl rfl; refine R_take (T_decT rfl (by omega)) ?_ rfl rfl; (iterate 2 refine R_p rfl ?_ rfl rfl); refine R_nil ?_)
        exact hB _ _ _ _ _ rfl rfl fun w' hS => ⟨(), rfl, trivial, hS.sublist (List.nil_sublist _)⟩
      · rw [decide_eq_false h3] at hB
        focus (refine S_seq rfl ?_; refine S_region rfl rfl ?_; (refine R_eff (E_boxa (cs := [.int .u64 (t : Int), .int .i64 k, .slice A n c]) rfl) ?_ rfl rfl; rintro _ _ ⟨b1, rfl, rfl⟩); refine R_p rfl ?_ rfl rfl; refine R_nil (S_seq rfl (S_region rfl rfl ?_)); refine R_p rfl ?_ rfl rfl; refine R_take (T_load rfl rfl rfl rfl) ?_ rfl rfl; refine R_take (T_decT rfl (by omega)) ?_ rfl rfl; (iterate 2 refine R_p rfl ?_ rfl rfl); refine R_take (T_load rfl rfl rfl rfl) ?_ rfl rfl; refine R_take (T_decT rfl (by omega)) ?_ rfl rfl; (iterate 2 refine R_p rfl ?_ rfl rfl); refine R_take (T_load rfl rfl rfl rfl) ?_ rfl rfl; refine R_p rfl ?_ rfl rfl; refine R_take (T_decF rfl (by omega)) ?_ rfl rfl; (iterate 3 refine R_p rfl ?_ rfl rfl); refine R_take (T_load rfl rfl rfl rfl) ?_ rfl rfl; refine R_take (T_decF rfl (by omega)) ?_ rfl rfl; (iterate 3 refine R_p rfl ?_ rfl rfl); refine R_take (T_load rfl rfl rfl rfl) ?_ rfl rfl; refine R_take (T_decF rfl (by omega)) ?_ rfl rfl; (iterate 3 refine R_p rfl ?_ rfl rfl); (iterate 4 refine R_skip ?_ rfl rfl); (iterate 2 refine R_p rfl ?_ rfl rfl); refine R_nil ?_)
        exact hB _ _ _ _ _ rfl rfl fun w' hS => ⟨(), rfl, trivial, hS.sublist (List.nil_sublist _)⟩
    rw [if_neg h1] at hB
    by_cases h4 : k = 2
    · rw [if_pos (.inl h4)] at hB
      by_cases h3 : n ≤ 1024
      · rw [decide_eq_true h3] at hB
        focus (refine S_seq rfl ?_; refine S_region rfl rfl ?_; (refine R_eff (E_boxa (cs := [.int .u64 (t : Int), .int .i64 k, .slice A n c]) rfl) ?_ rfl rfl; rintro _ _ ⟨b1, rfl, rfl⟩); refine R_p rfl ?_ rfl rfl; refine R_nil (S_seq rfl (S_region rfl rfl ?_)); refine R_p rfl ?_ rfl rfl; refine R_take (T_load rfl rfl rfl rfl) ?_ rfl rfl; refine R_take (T_decT rfl (by omega)) ?_ rfl rfl; (iterate 2 refine R_p rfl ?_ rfl rfl); refine R_take (T_load rfl rfl rfl rfl) ?_ rfl rfl; refine R_take (T_decF rfl (by omega)) ?_ rfl rfl; refine R_p rfl ?_ rfl rfl; (iterate 4 refine R_skip ?_ rfl rfl); (iterate 3 refine R_p rfl ?_ rfl rfl); refine R_take (T_load rfl rfl rfl rfl) ?_ rfl rfl; refine R_take (T_decT rfl (by omega)) ?_ rfl rfl; (iterate 2 refine R_p rfl ?_ rfl rfl); (iterate 3 refine R_skip ?_ rfl rfl); (iterate 4 refine R_p rfl ?_ rfl rfl); refine R_take (T_load rfl rfl rfl rfl) ?_ rfl rfl; refine R_p rfl ?_ rfl rfl; refine R_take (T_decT rfl (by omega)) ?_ rfl rfl; (iterate 2 refine R_p rfl ?_ rfl rfl); refine R_nil ?_)
        exact hB _ _ _ _ _ rfl rfl fun w' hS => ⟨(), rfl, trivial, hS.sublist (List.nil_sublist _)⟩
      · rw [decide_eq_false h3] at hB
        focus (refine S_seq rfl ?_; refine S_region rfl rfl ?_; (refine R_eff (E_boxa (cs := [.int .u64 (t : Int), .int .i64 k, .slice A n c]) rfl) ?_ rfl rfl; rintro _ _ ⟨b1, rfl, rfl⟩); refine R_p rfl ?_ rfl rfl; refine R_nil (S_seq rfl (S_region rfl rfl ?_)); refine R_p rfl ?_ rfl rfl; refine R_take (T_load rfl rfl rfl rfl) ?_ rfl rfl; refine R_take (T_decT rfl (by omega)) ?_ rfl rfl; (iterate 2 refine R_p rfl ?_ rfl rfl); refine R_take (T_load rfl rfl rfl rfl) ?_ rfl rfl; refine R_take (T_decF rfl (by omega)) ?_ rfl rfl; refine R_p rfl ?_ rfl rfl; (iterate 4 refine R_skip ?_ rfl rfl); (iterate 3 refine R_p rfl ?_ rfl rfl); refine R_take (T_load rfl rfl rfl rfl) ?_ rfl rfl; refine R_take (T_decT rfl (by omega)) ?_ rfl rfl; (iterate 2 refine R_p rfl ?_ rfl rfl); (iterate 3 refine R_skip ?_ rfl rfl); (iterate 4 refine R_p rfl ?_ rfl rfl); refine R_take (T_load rfl rfl rfl rfl) ?_ rfl rfl; refine R_p rfl ?_ rfl rfl; refine R_take (T_decF rfl (by omega)) ?_ rfl rfl; (iterate 2 refine R_p rfl ?_ rfl rfl); refine R_nil ?_)
        exact hB _ _ _ _ _ rfl rfl fun w' hS => ⟨(), rfl, trivial, hS.sublist (List.nil_sublist _)⟩
    by_cases h5 : k = 3
    · rw [if_pos (.inr h5)] at hB
      by_cases h3 : n ≤ 1024
      · rw [decide_eq_true h3] at hB
        focus (refine S_seq rfl ?_; refine S_region rfl rfl ?_; (refine R_eff (E_boxa (cs := [.int .u64 (t : Int), .int .i64 k, .slice A n c]) rfl) ?_ rfl rfl; rintro _ _ ⟨b1, rfl, rfl⟩); refine R_p rfl ?_ rfl rfl; refine R_nil (S_seq rfl (S_region rfl rfl ?_)); refine R_p rfl ?_ rfl rfl; refine R_take (T_load rfl rfl rfl rfl) ?_ rfl rfl; refine R_take (T_decT rfl (by omega)) ?_ rfl rfl; (iterate 2 refine R_p rfl ?_ rfl rfl); refine R_take (T_load rfl rfl rfl rfl) ?_ rfl rfl; refine R_take (T_decF rfl (by omega)) ?_ rfl rfl; refine R_p rfl ?_ rfl rfl; (iterate 4 refine R_skip ?_ rfl rfl); (iterate 3 refine R_p rfl ?_ rfl rfl); refine R_take (T_load rfl rfl rfl rfl) ?_ rfl rfl; refine R_take (T_decF rfl (by omega)) ?_ rfl rfl; (iterate 3 refine R_p rfl ?_ rfl rfl); refine R_take (T_load rfl rfl rfl rfl) ?_ rfl rfl; refine R_take (T_decT rfl (by omega)) ?_ rfl rfl; (iterate 4 refine R_p rfl ?_ rfl rfl); refine R_take (T_load rfl rfl rfl rfl) ?_ rfl rfl; refine R_p rfl ?_ rfl rfl; refine R_take (T_decT rfl (by omega)) ?_ rfl rfl; (iterate 2 refine R_p rfl ?_ rfl rfl); refine R_nil ?_)
        exact hB _ _ _ _ _ rfl rfl fun w' hS => ⟨(), rfl, trivial, hS.sublist (List.nil_sublist _)⟩
      · rw [decide_eq_false h3] at hB
        focus (refine S_seq rfl ?_; refine S_region rfl rfl ?_; (refine R_eff (E_boxa (cs := [.int .u64 (t : Int), .int .i64 k, .slice A n c]) rfl) ?_ rfl rfl; rintro _ _ ⟨b1, rfl, rfl⟩); refine R_p rfl ?_ rfl rfl; refine R_nil (S_seq rfl (S_region rfl rfl ?_)); refine R_p rfl ?_ rfl rfl; refine R_take (T_load rfl rfl rfl rfl) ?_ rfl rfl; refine R_take (T_decT rfl (by omega)) ?_ rfl rfl; (iterate 2 refine R_p rfl ?_ rfl rfl); refine R_take (T_load rfl rfl rfl rfl) ?_ rfl rfl; refine R_take (T_decF rfl (by omega)) ?_ rfl rfl; refine R_p rfl ?_ rfl rfl; (iterate 4 refine R_skip ?_ rfl rfl); (iterate 3 refine R_p rfl ?_ rfl rfl); refine R_take (T_load rfl rfl rfl rfl) ?_ rfl rfl; refine R_take (T_decF rfl (by omega)) ?_ rfl rfl; (iterate 3 refine R_p rfl ?_ rfl rfl); refine R_take (T_load rfl rfl rfl rfl) ?_ rfl rfl; refine R_take (T_decT rfl (by omega)) ?_ rfl rfl; (iterate 4 refine R_p rfl ?_ rfl rfl); refine R_take (T_load rfl rfl rfl rfl) ?_ rfl rfl; refine R_p rfl ?_ rfl rfl; refine R_take (T_decF rfl (by omega)) ?_ rfl rfl; (iterate 2 refine R_p rfl ?_ rfl rfl); refine R_nil ?_)
        exact hB _ _ _ _ _ rfl rfl fun w' hS => ⟨(), rfl, trivial, hS.sublist (List.nil_sublist _)⟩
    · rw [if_neg (by omega)] at hB
      focus (refine S_seq rfl ?_; refine S_region rfl rfl ?_; (refine R_eff (E_boxa (cs := [.int .u64 (t : Int), .int .i64 k, .slice A n c]) rfl) ?_ rfl rfl; rintro _ _ ⟨b1, rfl, rfl⟩); refine R_p rfl ?_ rfl rfl; refine R_nil (S_seq rfl (S_region rfl rfl ?_)); refine R_p rfl ?_ rfl rfl; refine R_take (T_load rfl rfl rfl rfl) ?_ rfl rfl; refine R_take (T_decT rfl (by omega)) ?_ rfl rfl; (iterate 2 refine R_p rfl ?_ rfl rfl); refine R_take (T_load rfl rfl rfl rfl) ?_ rfl rfl; refine R_take (T_decF rfl (by omega)) ?_ rfl rfl; refine R_p rfl ?_ rfl rfl; (iterate 4 refine R_skip ?_ rfl rfl); (iterate 3 refine R_p rfl ?_ rfl rfl); refine R_take (T_load rfl rfl rfl rfl) ?_ rfl rfl; refine R_take (T_decF rfl (by omega)) ?_ rfl rfl; (iterate 3 refine R_p rfl ?_ rfl rfl); refine R_take (T_load rfl rfl rfl rfl) ?_ rfl rfl; refine R_take (T_decF rfl (by omega)) ?_ rfl rfl; (iterate 3 refine R_p rfl ?_ rfl rfl); (iterate 4 refine R_skip ?_ rfl rfl); (iterate 2 refine R_p rfl ?_ rfl rfl); refine R_nil ?_)
      exact hB _ _ _ _ _ rfl rfl fun w' hS => ⟨(), rfl, trivial, hS.sublist (List.nil_sublist _)⟩
  · have hf : (if k = 1 then decide (0 < t) && decide (n = 0) else if k = 2 ∨ k = 3 then decide (0 < t) && decide (n ≤ 1024) else false) = false := by
      rw [decide_eq_false h2, Bool.false_and, Bool.false_and]
      split <;> simp
    rw [hf] at hB
    focus (refine S_seq rfl ?_; refine S_region rfl rfl ?_; (refine R_eff (E_boxa (cs := [.int .u64 (t : Int), .int .i64 k, .slice A n c]) rfl) ?_ rfl rfl; rintro _ _ ⟨b1, rfl, rfl⟩); refine R_p rfl ?_ rfl rfl; refine R_nil (S_seq rfl (S_region rfl rfl ?_)); refine R_p rfl ?_ rfl rfl; refine R_take (T_load rfl rfl rfl rfl) ?_ rfl rfl; refine R_take (T_decF rfl (by omega)) ?_ rfl rfl; refine R_p rfl ?_ rfl rfl; (iterate 19 refine R_skip ?_ rfl rfl); (iterate 2 refine R_p rfl ?_ rfl rfl); (iterate 4 refine R_skip ?_ rfl rfl); (iterate 2 refine R_p rfl ?_ rfl rfl); refine R_nil ?_)
    exact hB _ _ _ _ _ rfl rfl fun w' hS => ⟨(), rfl, trivial, hS.sublist (List.nil_sublist _)⟩
/-- an element's bytes, read whole -/
def BsM (w : World) (m : Em) : Prop := Bs w All m.2.2.1 m.2.2.2.2.length m.2.2.2.1 m.2.2.2.2
set_option maxRecDepth 100000 in
set_option maxHeartbeats 4000000 in
theorem beq_any (w : World) (A A2 : Option Addr) (n c n2 c2 : Nat) (l l2 : List UInt8) (h : Bs w All A n c l) (h2 : Bs w All A2 n2 c2 l2) :
    Gives Tryd.prog 72 [.slice A n c, .slice A2 n2 c2] [] w (X := Unit) (fun _ => .bool (decide (l = l2))) (fun _ => True) (fun _ => []) := by
  refine gives_S Tryd.func72 rfl Tryd.ntmps72 Tryd.results72 (by simp) (St.enter w) (fun B hB => ?_)
  obtain ⟨r, hr⟩ : ∃ r, decide (l = l2) = r := ⟨_, rfl⟩
  rw [hr] at hB
  have hsc : scmp .eql (bl ⟨l.toArray⟩) (bl ⟨l2.toArray⟩) = some r := by rw [← hr]; simp [scmp, bl]; first | done | exact decide_eq_decide.2 Iff.rfl | rfl | congr
  focus (refine S_seq rfl ?_; refine S_region rfl rfl ?_; refine R_p rfl ?_ rfl rfl; refine R_nil (S_seq rfl (S_region rfl rfl ?_)); refine R_p rfl ?_ rfl rfl; refine R_take (T_b2s rfl rfl rfl rfl rfl rfl rfl (Src.old h (fun k _ => noOwns k))) ?_ rfl rfl; refine R_p rfl ?_ rfl rfl; refine R_take (T_b2s rfl rfl rfl rfl rfl rfl rfl (Src.old h2 (fun k _ => noOwns k))) ?_ rfl rfl; refine R_take (T_scmp (r := ⟨l.toArray⟩) (s := ⟨l2.toArray⟩) rfl rfl hsc) ?_ rfl rfl; refine R_p rfl ?_ rfl rfl; refine R_nil ?_)
  exact hB _ _ _ _ _ rfl rfl fun w' hS => ⟨(), rfl, trivial, hS.sublist (List.nil_sublist _)⟩
set_option maxRecDepth 100000 in
set_option maxHeartbeats 4000000 in
theorem like_any (w : World) (m m2 : Em) (h : BsM w m) (h2 : BsM w m2) :
    Gives Tryd.prog 71 [.agg (emc m).toArray, .agg (emc m2).toArray] [] w (X := Unit) (fun _ => .bool (decide (emv m = emv m2))) (fun _ => True) (fun _ => []) := by
  refine gives_S Tryd.func71 rfl Tryd.ntmps71 Tryd.results71 (by simp) (St.enter w) (fun B hB => ?_)
  obtain ⟨t, k, A, c, l⟩ := m
  obtain ⟨t2, k2, A2, c2', l2⟩ := m2
  have h : Bs w All A l.length c l := h
  have h2 : Bs w All A2 l2.length c2' l2 := h2
  obtain ⟨r, hr⟩ : ∃ r, decide (l = l2) = r := ⟨_, rfl⟩
  have he : decide (emv (t, k, A, c, l) = emv (t2, k2, A2, c2', l2)) = (decide (t = t2) && (decide (k = k2) && r)) := by
    rw [← hr]
    show decide (((t, k, l) : En) = (t2, k2, l2)) = _
    rw [Bool.eq_iff_iff]
    simp
  rw [he] at hB
  by_cases h1 : t = t2
  · by_cases h3 : k = k2
    · rw [decide_eq_true h1, decide_eq_true h3, Bool.true_and, Bool.true_and] at hB
      focus (refine S_seq rfl ?_; refine S_region rfl rfl ?_; (refine R_eff (E_boxa (cs := [.int .u64 (t : Int), .int .i64 k, .slice A l.length c]) rfl) ?_ rfl rfl; rintro _ _ ⟨b2, rfl, rfl⟩); (refine R_eff (E_boxa (cs := [.int .u64 (t2 : Int), .int .i64 k2, .slice A2 l2.length c2']) rfl) ?_ rfl rfl; rintro _ _ ⟨b3, rfl, rfl⟩); refine R_p rfl ?_ rfl rfl; refine R_nil (S_seq rfl (S_region rfl rfl ?_)); refine R_p rfl ?_ rfl rfl; refine R_take (T_load rfl rfl rfl rfl) ?_ rfl rfl; refine R_p rfl ?_ rfl rfl; refine R_take (T_load rfl rfl rfl rfl) ?_ rfl rfl; refine R_take (T_decT rfl (by omega)) ?_ rfl rfl; (iterate 2 refine R_p rfl ?_ rfl rfl); refine R_take (T_load rfl rfl rfl rfl) ?_ rfl rfl; refine R_p rfl ?_ rfl rfl; refine R_take (T_load rfl rfl rfl rfl) ?_ rfl rfl; refine R_take (T_decT rfl (by omega)) ?_ rfl rfl; (iterate 3 refine R_p rfl ?_ rfl rfl); refine R_take (T_load rfl rfl rfl rfl) ?_ rfl rfl; refine R_p rfl ?_ rfl rfl; refine R_take (T_load rfl rfl rfl rfl) ?_ rfl rfl; ((refine R_eff (E_hv0 (f := 72) ⟨_, Tryd.func72, rfl, by kernel_rfl⟩ (fun w hS => beq_any w A A2 l.length c l2.length c2' l l2 ((Src.old h (fun k _ => noOwns k)).bs w hS) ((Src.old h2 (fun k _ => noOwns k)).bs w hS)) rfl rfl (fun _ => rfl)) ?_ rfl rfl; rintro _ _ ⟨_, rfl, _, rfl⟩); rw [hr]); (iterate 2 refine R_p rfl ?_ rfl rfl); refine R_nil ?_)
      exact hB _ _ _ _ _ rfl rfl fun w' hS => ⟨(), rfl, trivial, hS.sublist (List.nil_sublist _)⟩
    · rw [decide_eq_false h3, Bool.false_and, Bool.and_false] at hB
      focus (refine S_seq rfl ?_; refine S_region rfl rfl ?_; (refine R_eff (E_boxa (cs := [.int .u64 (t : Int), .int .i64 k, .slice A l.length c]) rfl) ?_ rfl rfl; rintro _ _ ⟨b2, rfl, rfl⟩); (refine R_eff (E_boxa (cs := [.int .u64 (t2 : Int), .int .i64 k2, .slice A2 l2.length c2']) rfl) ?_ rfl rfl; rintro _ _ ⟨b3, rfl, rfl⟩); refine R_p rfl ?_ rfl rfl; refine R_nil (S_seq rfl (S_region rfl rfl ?_)); refine R_p rfl ?_ rfl rfl; refine R_take (T_load rfl rfl rfl rfl) ?_ rfl rfl; refine R_p rfl ?_ rfl rfl; refine R_take (T_load rfl rfl rfl rfl) ?_ rfl rfl; refine R_take (T_decT rfl (by omega)) ?_ rfl rfl; (iterate 2 refine R_p rfl ?_ rfl rfl); refine R_take (T_load rfl rfl rfl rfl) ?_ rfl rfl; refine R_p rfl ?_ rfl rfl; refine R_take (T_load rfl rfl rfl rfl) ?_ rfl rfl; refine R_take (T_decF rfl (by omega)) ?_ rfl rfl; (iterate 2 refine R_p rfl ?_ rfl rfl); (iterate 5 refine R_skip ?_ rfl rfl); (iterate 2 refine R_p rfl ?_ rfl rfl); refine R_nil ?_)
      exact hB _ _ _ _ _ rfl rfl fun w' hS => ⟨(), rfl, trivial, hS.sublist (List.nil_sublist _)⟩
  · rw [decide_eq_false h1, Bool.false_and] at hB
    focus (refine S_seq rfl ?_; refine S_region rfl rfl ?_; (refine R_eff (E_boxa (cs := [.int .u64 (t : Int), .int .i64 k, .slice A l.length c]) rfl) ?_ rfl rfl; rintro _ _ ⟨b2, rfl, rfl⟩); (refine R_eff (E_boxa (cs := [.int .u64 (t2 : Int), .int .i64 k2, .slice A2 l2.length c2']) rfl) ?_ rfl rfl; rintro _ _ ⟨b3, rfl, rfl⟩); refine R_p rfl ?_ rfl rfl; refine R_nil (S_seq rfl (S_region rfl rfl ?_)); refine R_p rfl ?_ rfl rfl; refine R_take (T_load rfl rfl rfl rfl) ?_ rfl rfl; refine R_p rfl ?_ rfl rfl; refine R_take (T_load rfl rfl rfl rfl) ?_ rfl rfl; refine R_take (T_decF rfl (by omega)) ?_ rfl rfl; refine R_p rfl ?_ rfl rfl; (iterate 5 refine R_skip ?_ rfl rfl); (iterate 2 refine R_p rfl ?_ rfl rfl); (iterate 5 refine R_skip ?_ rfl rfl); (iterate 2 refine R_p rfl ?_ rfl rfl); refine R_nil ?_)
    exact hB _ _ _ _ _ rfl rfl fun w' hS => ⟨(), rfl, trivial, hS.sublist (List.nil_sublist _)⟩
theorem eq_uptoE {L M : List En} (hl : L.length = M.length) (h : ∀ i, i < L.length → L.getD i default = M.getD i default) : L = M := by
  refine List.ext_getElem hl fun i h1 h2 => ?_
  have := h i h1
  simpa [List.getD, h1, h2] using this
set_option maxRecDepth 100000 in
set_option maxHeartbeats 4000000 in
theorem eqfE_any (w : World) (A A2 : Option Addr) (c c2' : Nat) (Q M : List Em) (h : Rd w All 3 A Q.length (cellsL emc Q)) (h2 : Rd w All 3 A2 M.length (cellsL emc M)) (hq : ∀ m ∈ Q, BsM w m) (hm : ∀ m ∈ M, BsM w m) (hn : Q.length ≤ 100000) (hn2 : M.length ≤ 100000) :
    Gives Tryd.prog 73 [.slice A Q.length c, .slice A2 M.length c2', .func (.func 71) #[] #[]] [] w (X := Unit) (fun _ => .bool (decide (Q.map emv = M.map emv))) (fun _ => True) (fun _ => []) := by
  refine gives_S Tryd.func73 rfl Tryd.ntmps73 Tryd.results73 (by simp) (St.enter w) (fun B hB => ?_)
  have hne : 0 < Q.length → A ≠ none := fun h0 => by obtain ⟨ad, rfl, _⟩ := h.2 (by omega); simp
  have hne2 : 0 < M.length → A2 ≠ none := fun h0 => by obtain ⟨ad, rfl, _⟩ := h2.2 (by omega); simp
  by_cases hlm : Q.length = M.length
  · skip
    focus (refine S_seq rfl ?_; refine S_region rfl rfl ?_; refine R_p rfl ?_ rfl rfl; refine R_nil ?_; refine S_seq rfl ?_; refine S_seq rfl (S_region rfl rfl ?_); (iterate 4 refine R_p rfl ?_ rfl rfl); refine R_take (T_decF rfl (by omega)) ?_ rfl rfl; refine R_nil ?_; refine S_false rfl rfl ?_; refine S_skip rfl ?_; refine S_seq rfl ?_; refine S_seq rfl (S_region rfl rfl ?_); (iterate 3 refine R_p rfl ?_ rfl rfl); refine R_nil ?_; refine S_block rfl ?_)
    refine S_loop (X := Nat) (fun j => [(1, .slice A2 M.length c2'), (2, .func (.func 71) #[] #[]), (15, .slice A Q.length c), (16, .int .i64 (Q.length : Int)), (17, .int .i64 (j : Int))]) (fun _ => []) (fun j => j ≤ Q.length ∧ ∀ i, i < j → (Q.map emv).getD i default = (M.map emv).getD i default) (fun j => Q.length - j) rfl 0 ⟨Nat.zero_le _, fun i hi => by omega⟩ (Sub.cons rfl (Sub.cons rfl (Sub.cons rfl (Sub.cons rfl (Sub.cons rfl Sub.nil))))) (fun _ h => h) ?_
    rintro j ⟨hj, hok⟩ J hJ
    rcases Nat.lt_or_ge j Q.length with hjl | hjl
    · have hne := hne (by omega)
      have hne2 := hne2 (by omega)
      have hjm : j < M.length := by omega
      have hat := cellsL_at (f := emc) emc_len Q default j hjl
      have hat2 := cellsL_at (f := emc) emc_len M default j hjm
      have eq1 : (Q.map emv).getD j default = emv (Q.getD j default) := by simp [List.getD, hjl]
      have eq2 : (M.map emv).getD j default = emv (M.getD j default) := by simp [List.getD, hjm]
      have hb1 := hq (Q.getD j default) (by simp [List.getD, hjl])
      have hb2 := hm (M.getD j default) (by simp [List.getD, hjm])
      have hnx : emv (Q.getD j default) = emv (M.getD j default) → ∀ i, i < j + 1 → (Q.map emv).getD i default = (M.map emv).getD i default := fun e i hi => by
        rcases Nat.lt_or_ge i j with h3 | h3
        · exact hok i h3
        · rw [show i = j by omega, eq1, eq2]; exact e
      have hne3 : emv (Q.getD j default) ≠ emv (M.getD j default) → ¬ Q.map emv = M.map emv := fun e e2 => e (by rw [← eq1, ← eq2, e2])
      obtain ⟨x, hx⟩ : ∃ x, Q.getD j default = x := ⟨_, rfl⟩
      obtain ⟨y, hy⟩ : ∃ y, M.getD j default = y := ⟨_, rfl⟩
      rw [hx] at hat hnx hne3 hb1
      rw [hy] at hat2 hnx hne3 hb2
      obtain ⟨r, hr⟩ : ∃ r, decide (emv x = emv y) = r := ⟨_, rfl⟩
      cases r
      · rw [decide_eq_false (hne3 (of_decide_eq_false hr))] at hB
        focus (refine S_seq rfl ?_; refine S_region rfl rfl ?_; refine R_take (T_decT rfl (by omega)) ?_ rfl rfl; refine R_nil ?_; refine S_seq rfl ?_; refine S_true rfl rfl ?_; refine S_skip rfl ?_; refine S_seq rfl ?_; refine S_block rfl ?_; refine S_seq rfl (S_region rfl rfl ?_); refine R_p rfl ?_ rfl rfl; refine R_take (T_ixM (sz := 3) rfl rfl rfl rfl rfl rfl hne hjl) ?_ rfl rfl; refine R_take (T_lda (ds := emc x) rfl rfl rfl (Srd.old h (fun k _ => noOwns k)) rfl (by omega) hat) ?_ rfl rfl; (refine R_eff (E_alloca rfl em_zero) ?_ rfl rfl; rintro _ _ ⟨b8, rfl, rfl⟩); refine R_p rfl ?_ rfl rfl; (refine R_eff0 (E_storew (cs := emc (0, 0, none, 0, [])) (ds := emc x) rfl rfl rfl rfl (emc_one _) rfl) ?_ rfl; rintro _ _ rfl); refine R_nil (S_seq rfl (S_region rfl rfl ?_)); (iterate 2 refine R_p rfl ?_ rfl rfl); refine R_take (T_ixM (sz := 3) rfl rfl rfl rfl rfl rfl hne2 hjm) ?_ rfl rfl; refine R_take (T_lda (ds := emc y) rfl rfl rfl (Srd.old h2 (fun k _ => noOwns k)) rfl (by omega) hat2) ?_ rfl rfl; (refine R_eff (E_alloca rfl em_zero) ?_ rfl rfl; rintro _ _ ⟨b8, rfl, rfl⟩); (refine R_eff0 (E_storew (cs := emc (0, 0, none, 0, [])) (ds := emc y) rfl rfl rfl rfl (emc_one _) rfl) ?_ rfl; rintro _ _ rfl); refine R_nil (S_seq rfl (S_region rfl rfl ?_)); refine R_p rfl ?_ rfl rfl; refine R_take (T_loads (ds := emc x) rfl rfl rfl rfl rfl) ?_ rfl rfl; refine R_take (T_loads (ds := emc y) rfl rfl rfl rfl rfl) ?_ rfl rfl; (refine R_eff (E_cloA (cap := []) rfl (E_hv0 (f := 71) ⟨_, Tryd.func71, rfl, by kernel_rfl⟩ (fun w hS => like_any w x y ((Src.old hb1 (fun k _ => noOwns k)).bs w hS) ((Src.old hb2 (fun k _ => noOwns k)).bs w hS)) rfl rfl (fun _ => rfl))) ?_ rfl rfl; rintro _ _ ⟨_, rfl, _, rfl⟩; rw [hr]); refine R_take (T_not rfl) ?_ rfl rfl; refine R_nil ?_; refine S_true rfl rfl ?_; refine S_seq rfl (S_region rfl rfl ?_); refine R_p rfl ?_ rfl rfl; refine R_nil ?_)
        exact hB _ _ _ _ _ rfl rfl fun w' hS => ⟨(), rfl, trivial, hS.sublist (List.nil_sublist _)⟩
      · focus (refine S_seq rfl ?_; refine S_region rfl rfl ?_; refine R_take (T_decT rfl (by omega)) ?_ rfl rfl; refine R_nil ?_; refine S_seq rfl ?_; refine S_true rfl rfl ?_; refine S_skip rfl ?_; refine S_seq rfl ?_; refine S_block rfl ?_; refine S_seq rfl (S_region rfl rfl ?_); refine R_p rfl ?_ rfl rfl; refine R_take (T_ixM (sz := 3) rfl rfl rfl rfl rfl rfl hne hjl) ?_ rfl rfl; refine R_take (T_lda (ds := emc x) rfl rfl rfl (Srd.old h (fun k _ => noOwns k)) rfl (by omega) hat) ?_ rfl rfl; (refine R_eff (E_alloca rfl em_zero) ?_ rfl rfl; rintro _ _ ⟨b8, rfl, rfl⟩); refine R_p rfl ?_ rfl rfl; (refine R_eff0 (E_storew (cs := emc (0, 0, none, 0, [])) (ds := emc x) rfl rfl rfl rfl (emc_one _) rfl) ?_ rfl; rintro _ _ rfl); refine R_nil (S_seq rfl (S_region rfl rfl ?_)); (iterate 2 refine R_p rfl ?_ rfl rfl); refine R_take (T_ixM (sz := 3) rfl rfl rfl rfl rfl rfl hne2 hjm) ?_ rfl rfl; refine R_take (T_lda (ds := emc y) rfl rfl rfl (Srd.old h2 (fun k _ => noOwns k)) rfl (by omega) hat2) ?_ rfl rfl; (refine R_eff (E_alloca rfl em_zero) ?_ rfl rfl; rintro _ _ ⟨b8, rfl, rfl⟩); (refine R_eff0 (E_storew (cs := emc (0, 0, none, 0, [])) (ds := emc y) rfl rfl rfl rfl (emc_one _) rfl) ?_ rfl; rintro _ _ rfl); refine R_nil (S_seq rfl (S_region rfl rfl ?_)); refine R_p rfl ?_ rfl rfl; refine R_take (T_loads (ds := emc x) rfl rfl rfl rfl rfl) ?_ rfl rfl; refine R_take (T_loads (ds := emc y) rfl rfl rfl rfl rfl) ?_ rfl rfl; (refine R_eff (E_cloA (cap := []) rfl (E_hv0 (f := 71) ⟨_, Tryd.func71, rfl, by kernel_rfl⟩ (fun w hS => like_any w x y ((Src.old hb1 (fun k _ => noOwns k)).bs w hS) ((Src.old hb2 (fun k _ => noOwns k)).bs w hS)) rfl rfl (fun _ => rfl))) ?_ rfl rfl; rintro _ _ ⟨_, rfl, _, rfl⟩; rw [hr]); refine R_take (T_not rfl) ?_ rfl rfl; refine R_nil ?_; refine S_false rfl rfl ?_; refine S_skip rfl ?_; refine RS_blk ?_; refine S_region rfl rfl ?_; refine R_take (T_addN rfl rfl (by unfold fits; omega)) ?_ rfl rfl; refine R_p rfl ?_ rfl rfl; refine R_nil ?_)
        exact hJ (j + 1) _ _ ⟨by omega, hnx (of_decide_eq_true hr)⟩ (Sub.cons rfl (Sub.cons rfl (Sub.cons rfl (Sub.cons rfl (Sub.cons rfl Sub.nil))))) (fun _ h => h.sublist (List.nil_sublist _)) (by omega)
    have hjn : j = Q.length := by omega
    subst hjn
    rw [decide_eq_true (eq_uptoE (by simpa using hlm) (fun i hi => hok i (by simpa using hi)))] at hB
    focus (refine S_seq rfl ?_; refine S_region rfl rfl ?_; refine R_take (T_decF rfl (by omega)) ?_ rfl rfl; refine R_nil ?_; refine S_seq rfl ?_; refine S_false rfl rfl ?_; refine S_exit rfl rfl ?_; refine S_seq rfl (S_region rfl rfl ?_); refine R_p rfl ?_ rfl rfl; refine R_nil ?_)
    exact hB _ _ _ _ _ rfl rfl fun w' hS => ⟨(), rfl, trivial, hS.sublist (List.nil_sublist _)⟩
  · rw [decide_eq_false (fun e => hlm (by simpa using congrArg List.length e))] at hB
    focus (refine S_seq rfl ?_; refine S_region rfl rfl ?_; refine R_p rfl ?_ rfl rfl; refine R_nil ?_; refine S_seq rfl ?_; refine S_seq rfl (S_region rfl rfl ?_); (iterate 4 refine R_p rfl ?_ rfl rfl); refine R_take (T_decT rfl (by omega)) ?_ rfl rfl; refine R_nil ?_; refine S_true rfl rfl ?_; refine S_seq rfl (S_region rfl rfl ?_); refine R_p rfl ?_ rfl rfl; refine R_nil ?_)
    exact hB _ _ _ _ _ rfl rfl fun w' hS => ⟨(), rfl, trivial, hS.sublist (List.nil_sublist _)⟩
set_option maxRecDepth 100000 in
set_option maxHeartbeats 4000000 in
theorem sameLg_any (w : World) (a b : At) (A A2 : Option Addr) (c c2' : Nat) (Q M : List Em) (h : Rd w All 3 A Q.length (cellsL emc Q)) (h2 : Rd w All 3 A2 M.length (cellsL emc M)) (hq : ∀ m ∈ Q, BsM w m) (hm : ∀ m ∈ M, BsM w m) (hn : Q.length ≤ 100000) (hn2 : M.length ≤ 100000) :
    Gives Tryd.prog 48 [.agg (lgc a A Q.length c).toArray, .agg (lgc b A2 M.length c2').toArray] [] w (X := Unit) (fun _ => .bool (decide (a = b) && decide (Q.map emv = M.map emv))) (fun _ => True) (fun _ => []) := by
  refine gives_S Tryd.func48 rfl Tryd.ntmps48 Tryd.results48 (by simp) (St.enter w) (fun B hB => ?_)
  obtain ⟨i, t⟩ := a
  obtain ⟨i2, t2⟩ := b
  obtain ⟨r, hr⟩ : ∃ r, decide ((i, t) = (i2, t2)) = r := ⟨_, rfl⟩
  obtain ⟨q, hq2⟩ : ∃ r, decide (Q.map emv = M.map emv) = r := ⟨_, rfl⟩
  rw [hr, hq2] at hB
  cases r
  · rw [Bool.false_and] at hB
    focus (refine S_seq rfl ?_; refine S_region rfl rfl ?_; (refine R_eff (E_boxa (cs := lgc (i, t) A Q.length c) rfl) ?_ rfl rfl; rintro _ _ ⟨b2, rfl, rfl⟩); (refine R_eff (E_boxa (cs := lgc (i2, t2) A2 M.length c2') rfl) ?_ rfl rfl; rintro _ _ ⟨b3, rfl, rfl⟩); refine R_p rfl ?_ rfl rfl; refine R_nil (S_seq rfl (S_region rfl rfl ?_)); refine R_p rfl ?_ rfl rfl; refine R_nil (S_seq rfl (S_region rfl rfl ?_)); refine R_p rfl ?_ rfl rfl; refine R_take (T_loads (ds := atc (i, t)) rfl rfl rfl rfl rfl) ?_ rfl rfl; refine R_p rfl ?_ rfl rfl; refine R_take (T_loads (ds := atc (i2, t2)) rfl rfl rfl rfl rfl) ?_ rfl rfl; refine R_take (T_eqAt (a := (i, t)) (b := (i2, t2)) rfl rfl hr) ?_ rfl rfl; refine R_p rfl ?_ rfl rfl; (iterate 6 refine R_skip ?_ rfl rfl); (iterate 2 refine R_p rfl ?_ rfl rfl); refine R_nil ?_)
    exact hB _ _ _ _ _ rfl rfl fun w' hS => ⟨(), rfl, trivial, hS.sublist (List.nil_sublist _)⟩
  · rw [Bool.true_and] at hB
    focus (refine S_seq rfl ?_; refine S_region rfl rfl ?_; (refine R_eff (E_boxa (cs := lgc (i, t) A Q.length c) rfl) ?_ rfl rfl; rintro _ _ ⟨b2, rfl, rfl⟩); (refine R_eff (E_boxa (cs := lgc (i2, t2) A2 M.length c2') rfl) ?_ rfl rfl; rintro _ _ ⟨b3, rfl, rfl⟩); refine R_p rfl ?_ rfl rfl; refine R_nil (S_seq rfl (S_region rfl rfl ?_)); refine R_p rfl ?_ rfl rfl; refine R_nil (S_seq rfl (S_region rfl rfl ?_)); refine R_p rfl ?_ rfl rfl; refine R_take (T_loads (ds := atc (i, t)) rfl rfl rfl rfl rfl) ?_ rfl rfl; refine R_p rfl ?_ rfl rfl; refine R_take (T_loads (ds := atc (i2, t2)) rfl rfl rfl rfl rfl) ?_ rfl rfl; refine R_take (T_eqAt (a := (i, t)) (b := (i2, t2)) rfl rfl hr) ?_ rfl rfl; (iterate 2 refine R_p rfl ?_ rfl rfl); refine R_take (T_load rfl rfl rfl rfl) ?_ rfl rfl; refine R_p rfl ?_ rfl rfl; refine R_take (T_load rfl rfl rfl rfl) ?_ rfl rfl; refine R_p rfl ?_ rfl rfl; ((refine R_eff (E_hv0 (f := 73) ⟨_, Tryd.func73, rfl, by kernel_rfl⟩ (fun w hS => eqfE_any w A A2 c c2' Q M ((Srd.old h (fun k _ => noOwns k)).rd w hS) ((Srd.old h2 (fun k _ => noOwns k)).rd w hS) (fun m hm2 => (Src.old (hq m hm2) (fun k _ => noOwns k)).bs w hS) (fun m hm2 => (Src.old (hm m hm2) (fun k _ => noOwns k)).bs w hS) hn hn2) rfl rfl (fun _ => rfl)) ?_ rfl rfl; rintro _ _ ⟨_, rfl, _, rfl⟩); rw [hq2]); (iterate 2 refine R_p rfl ?_ rfl rfl); refine R_nil ?_)
    exact hB _ _ _ _ _ rfl rfl fun w' hS => ⟨(), rfl, trivial, hS.sublist (List.nil_sublist _)⟩
end Go.Proofs.YtdbehejbeioboaaDoor
