/- Lemmas of the proof, part 3. -/
import Derived.MapKept
import Derived.Test.YtdeffdldifepkaaGreatZa2
namespace Go.Proofs.YtdeffdldifepkaaGreat
open Go.RowKit
open Asn (pt row rb)
set_option linter.unusedVariables false
set_option linter.unusedSimpArgs false
--@use N

set_option maxRecDepth 100000 in
set_option maxHeartbeats 4000000 in
theorem rightEntry_any (w : World) (m : Em) :
    Gives Tryz.prog 150 [.agg (emc m).toArray] [] w (X := Unit) (fun _ => .bool (placedB (emv m))) (fun _ => True) (fun _ => []) := by
  refine gives_S Tryz.func150 rfl Tryz.ntmps150 Tryz.results150 (by simp) (St.enter w) (fun B hB => ?_)
  obtain ⟨t, k, A, c, l⟩ := m
  obtain ⟨n, hn⟩ : ∃ n, l.length = n := ⟨_, rfl⟩
  have hp : placedB (emv (t, k, A, c, l)) = if k = 1 then decide (0 < t) && decide (n = 0) else if k = 2 ∨ k = 3 then decide (0 < t) && decide (n ≤ 1024) else false := by rw [← hn]; rfl
  rw [hp] at hB
  rw [show (emc (t, k, A, c, l)) = [.int .u64 (t : Int), .int .i64 k, .slice A n c] by rw [← hn]; rfl]
  by_cases h2 : 0 < t
  · rw [decide_eq_true h2, Bool.true_and, Bool.true_and] at hB
    by_cases h1 : k = 1
    · rw [if_pos h1] at hB
      by_cases h3 : n = 0
      · rw [decide_eq_true h3] at hB
        focus (refine qs ?_; (refine qe (E_boxa (cs := [.int .u64 (t : Int), .int .i64 k, .slice A n c]) rfl) ?_; rintro _ _ ⟨b1, rfl, rfl⟩); refine qp ?_; refine qn ?_; (iterate 2 refine qp ?_; refine qt (T_load rfl rfl rfl rfl) ?_; refine qd ?_; refine qp ?_); refine qp ?_; refine qt (T_load rfl rfl rfl rfl) ?_; refine qp ?_; refine qd ?_; (iterate 2 refine qp ?_; refine qp ?_; (iterate 3 refine qk ?_)); (iterate 4 refine qp ?_); refine qt (T_load rfl rfl rfl rfl) ?_; refine qp ?_; refine qd ?_; refine qp ?_; refine qp ?_; refine qz ?_)
        exact hB _ _ _ _ _ rfl rfl fun w' hS => ⟨(), rfl, trivial, hS.sublist (List.nil_sublist _)⟩
      · rw [decide_eq_false h3] at hB
        focus (refine qs ?_; (refine qe (E_boxa (cs := [.int .u64 (t : Int), .int .i64 k, .slice A n c]) rfl) ?_; rintro _ _ ⟨b1, rfl, rfl⟩); refine qp ?_; refine qn ?_; (iterate 2 refine qp ?_; refine qt (T_load rfl rfl rfl rfl) ?_; refine qd ?_; refine qp ?_); refine qp ?_; refine qt (T_load rfl rfl rfl rfl) ?_; refine qp ?_; (iterate 2 refine qf ?_; (iterate 3 refine qp ?_); refine qt (T_load rfl rfl rfl rfl) ?_); refine qf ?_; (iterate 3 refine qp ?_); (iterate 4 refine qk ?_); refine qp ?_; refine qp ?_; refine qz ?_)
        exact hB _ _ _ _ _ rfl rfl fun w' hS => ⟨(), rfl, trivial, hS.sublist (List.nil_sublist _)⟩
    rw [if_neg h1] at hB
    by_cases h4 : k = 2
    · rw [if_pos (.inl h4)] at hB
      by_cases h3 : n ≤ 1024
      · rw [decide_eq_true h3] at hB
        focus (refine qs ?_; (refine qe (E_boxa (cs := [.int .u64 (t : Int), .int .i64 k, .slice A n c]) rfl) ?_; rintro _ _ ⟨b1, rfl, rfl⟩); refine qp ?_; refine qn ?_; refine qp ?_; refine qt (T_load rfl rfl rfl rfl) ?_; refine qd ?_; refine qp ?_; refine qp ?_; refine qt (T_load rfl rfl rfl rfl) ?_; refine qf ?_; refine qp ?_; (iterate 4 refine qk ?_); (iterate 3 refine qp ?_); refine qt (T_load rfl rfl rfl rfl) ?_; refine qd ?_; refine qp ?_; refine qp ?_; (iterate 3 refine qk ?_); (iterate 4 refine qp ?_); refine qt (T_load rfl rfl rfl rfl) ?_; refine qp ?_; refine qd ?_; refine qp ?_; refine qp ?_; refine qz ?_)
        exact hB _ _ _ _ _ rfl rfl fun w' hS => ⟨(), rfl, trivial, hS.sublist (List.nil_sublist _)⟩
      · rw [decide_eq_false h3] at hB
        focus (refine qs ?_; (refine qe (E_boxa (cs := [.int .u64 (t : Int), .int .i64 k, .slice A n c]) rfl) ?_; rintro _ _ ⟨b1, rfl, rfl⟩); refine qp ?_; refine qn ?_; refine qp ?_; refine qt (T_load rfl rfl rfl rfl) ?_; refine qd ?_; refine qp ?_; refine qp ?_; refine qt (T_load rfl rfl rfl rfl) ?_; refine qf ?_; refine qp ?_; (iterate 4 refine qk ?_); (iterate 3 refine qp ?_); refine qt (T_load rfl rfl rfl rfl) ?_; refine qd ?_; refine qp ?_; refine qp ?_; (iterate 3 refine qk ?_); (iterate 4 refine qp ?_); refine qt (T_load rfl rfl rfl rfl) ?_; refine qp ?_; refine qf ?_; refine qp ?_; refine qp ?_; refine qz ?_)
        exact hB _ _ _ _ _ rfl rfl fun w' hS => ⟨(), rfl, trivial, hS.sublist (List.nil_sublist _)⟩
    by_cases h5 : k = 3
    · rw [if_pos (.inr h5)] at hB
      by_cases h3 : n ≤ 1024
      · rw [decide_eq_true h3] at hB
        focus (refine qs ?_; (refine qe (E_boxa (cs := [.int .u64 (t : Int), .int .i64 k, .slice A n c]) rfl) ?_; rintro _ _ ⟨b1, rfl, rfl⟩); refine qp ?_; refine qn ?_; refine qp ?_; refine qt (T_load rfl rfl rfl rfl) ?_; refine qd ?_; refine qp ?_; refine qp ?_; refine qt (T_load rfl rfl rfl rfl) ?_; refine qf ?_; refine qp ?_; (iterate 4 refine qk ?_); (iterate 3 refine qp ?_); refine qt (T_load rfl rfl rfl rfl) ?_; refine qf ?_; (iterate 3 refine qp ?_); refine qt (T_load rfl rfl rfl rfl) ?_; refine qd ?_; (iterate 4 refine qp ?_); refine qt (T_load rfl rfl rfl rfl) ?_; refine qp ?_; refine qd ?_; refine qp ?_; refine qp ?_; refine qz ?_)
        exact hB _ _ _ _ _ rfl rfl fun w' hS => ⟨(), rfl, trivial, hS.sublist (List.nil_sublist _)⟩
      · rw [decide_eq_false h3] at hB
        focus (refine qs ?_; (refine qe (E_boxa (cs := [.int .u64 (t : Int), .int .i64 k, .slice A n c]) rfl) ?_; rintro _ _ ⟨b1, rfl, rfl⟩); refine qp ?_; refine qn ?_; refine qp ?_; refine qt (T_load rfl rfl rfl rfl) ?_; refine qd ?_; refine qp ?_; refine qp ?_; refine qt (T_load rfl rfl rfl rfl) ?_; refine qf ?_; refine qp ?_; (iterate 4 refine qk ?_); (iterate 3 refine qp ?_); refine qt (T_load rfl rfl rfl rfl) ?_; refine qf ?_; (iterate 3 refine qp ?_); refine qt (T_load rfl rfl rfl rfl) ?_; refine qd ?_; (iterate 4 refine qp ?_); refine qt (T_load rfl rfl rfl rfl) ?_; refine qp ?_; refine qf ?_; refine qp ?_; refine qp ?_; refine qz ?_)
        exact hB _ _ _ _ _ rfl rfl fun w' hS => ⟨(), rfl, trivial, hS.sublist (List.nil_sublist _)⟩
    · rw [if_neg (by omega)] at hB
      focus (refine qs ?_; (refine qe (E_boxa (cs := [.int .u64 (t : Int), .int .i64 k, .slice A n c]) rfl) ?_; rintro _ _ ⟨b1, rfl, rfl⟩); refine qp ?_; refine qn ?_; refine qp ?_; refine qt (T_load rfl rfl rfl rfl) ?_; refine qd ?_; refine qp ?_; refine qp ?_; refine qt (T_load rfl rfl rfl rfl) ?_; refine qf ?_; refine qp ?_; (iterate 4 refine qk ?_); (iterate 2 (iterate 3 refine qp ?_); refine qt (T_load rfl rfl rfl rfl) ?_; refine qf ?_); (iterate 3 refine qp ?_); (iterate 4 refine qk ?_); refine qp ?_; refine qp ?_; refine qz ?_)
      exact hB _ _ _ _ _ rfl rfl fun w' hS => ⟨(), rfl, trivial, hS.sublist (List.nil_sublist _)⟩
  · have hf : (if k = 1 then decide (0 < t) && decide (n = 0) else if k = 2 ∨ k = 3 then decide (0 < t) && decide (n ≤ 1024) else false) = false := by
      rw [decide_eq_false h2, Bool.false_and, Bool.false_and]
      split <;> simp
    rw [hf] at hB
    focus (refine qs ?_; (refine qe (E_boxa (cs := [.int .u64 (t : Int), .int .i64 k, .slice A n c]) rfl) ?_; rintro _ _ ⟨b1, rfl, rfl⟩); refine qp ?_; refine qn ?_; refine qp ?_; refine qt (T_load rfl rfl rfl rfl) ?_; refine qf ?_; refine qp ?_; (iterate 19 refine qk ?_); refine qp ?_; refine qp ?_; (iterate 4 refine qk ?_); refine qp ?_; refine qp ?_; refine qz ?_)
    exact hB _ _ _ _ _ rfl rfl fun w' hS => ⟨(), rfl, trivial, hS.sublist (List.nil_sublist _)⟩
set_option maxRecDepth 100000 in
set_option maxHeartbeats 4000000 in
theorem risingD_any (w : World) (A : Option Addr) (c : Nat) (Q : List Em) (t : Nat) (h : Rd w All 3 A Q.length (cellsL emc Q)) (hn : Q.length ≤ 100000) :
    Gives Tryz.prog 139 [.slice A Q.length c, .int .u64 (t : Int)] [] w (X := Unit) (fun _ => .bool (risingB (Q.map emv) t)) (fun _ => True) (fun _ => []) := by
  refine gives_S Tryz.func139 rfl Tryz.ntmps139 Tryz.results139 (by simp) (St.enter w) (fun B hB => ?_)
  have hne : 0 < Q.length → A ≠ none := fun h0 => by obtain ⟨ad, rfl, _⟩ := h.2 (by omega); simp
  focus (refine qs ?_; refine qp ?_; refine qz ?_; refine qq ?_; refine qs ?_; (iterate 3 refine qp ?_); refine qz ?_; refine qb ?_)
  refine S_loop (X := Nat × Nat) (fun x => [(1, .int .u64 (x.2 : Int)), (7, .slice A Q.length c), (8, .int .i64 (Q.length : Int)), (9, .int .i64 (x.1 : Int))]) (fun _ => []) (fun x => x.1 ≤ Q.length ∧ risingB ((Q.take x.1).map emv) t = true ∧ lastT ((Q.take x.1).map emv) t = x.2) (fun x => Q.length - x.1) rfl (0, t) ⟨Nat.zero_le _, rfl, rfl⟩ (Sub.cons rfl (Sub.cons rfl (Sub.cons rfl (Sub.cons rfl Sub.nil)))) sub_st ?_
  rintro ⟨j, u⟩ ⟨hj, hok, hu⟩ J hJ
  dsimp only at hj hok hu ⊢
  rcases Nat.lt_or_ge j Q.length with hjl | hjl
  · have hne := hne (by omega)
    have hat := cellsL_at (f := emc) emc_len Q default j hjl
    obtain ⟨m, hm⟩ : ∃ m, Q.getD j default = m := ⟨_, rfl⟩
    rw [hm] at hat
    have htk := emv_take Q j hjl hm
    have hdr := emv_drop Q j hjl hm
    obtain ⟨r, hr⟩ : ∃ r, placedB (emv m) = r := ⟨_, rfl⟩
    have hfl : r = false ∨ m.1 < u → risingB (Q.map emv) t = false := fun h => by
      rw [hdr, rising_app, hok, hu, risingB, hr]
      rcases h with h | h
      · rw [h]; rfl
      · rw [decide_eq_false (by show ¬ u ≤ m.1; omega)]; simp
    have hnx : r = true → u ≤ m.1 → risingB ((Q.take (j + 1)).map emv) t = true ∧ lastT ((Q.take (j + 1)).map emv) t = m.1 := fun h1 h2 => by
      rw [htk, rising_app, lastT_app, hok, hu, risingB, risingB, hr, h1]
      exact ⟨by simp; exact h2, rfl⟩
    cases r
    · rw [hfl (.inl rfl)] at hB
      focus (refine qs ?_; refine qd ?_; refine qz ?_; refine qq ?_; refine qT ?_; refine qx ?_; refine qq ?_; refine qb ?_; refine qs ?_; refine qt (T_ixM (sz := 3) rfl rfl rfl rfl rfl rfl hne hjl) ?_; refine qt (T_lda (ds := emc m) rfl rfl rfl (Srd.old h (fun k _ => noOwns k)) rfl (by omega) hat) ?_; (refine qe (E_alloca rfl em_zero) ?_; rintro _ _ ⟨b6, rfl, rfl⟩); (refine qw (E_storew (cs := emc (0, 0, none, 0, [])) (ds := emc m) rfl rfl rfl rfl (emc_one _) rfl) ?_; rintro _ _ rfl); refine qz ?_; refine qq ?_; refine qs ?_; refine qt (T_loads (ds := emc m) rfl rfl rfl rfl rfl) ?_; ((refine qe (E_hv0 (f := 150) ⟨_, Tryz.func150, rfl, by kernel_rfl⟩ (fun w hS => rightEntry_any w m) rfl rfl (fun _ => rfl)) ?_; rintro _ _ ⟨_, rfl, _, rfl⟩); rw [hr]); refine qt (T_not rfl) ?_; refine qd ?_; (iterate 4 refine qk ?_); refine qd ?_; refine qz ?_; refine qT ?_; refine qs ?_; refine qp ?_; refine qz ?_)
      exact hB _ _ _ _ _ rfl rfl fun w' hS => ⟨(), rfl, trivial, hS.sublist (List.nil_sublist _)⟩
    by_cases hmu : m.1 < u
    · rw [hfl (.inr hmu)] at hB
      focus (refine qs ?_; refine qd ?_; refine qz ?_; refine qq ?_; refine qT ?_; refine qx ?_; refine qq ?_; refine qb ?_; refine qs ?_; refine qt (T_ixM (sz := 3) rfl rfl rfl rfl rfl rfl hne hjl) ?_; refine qt (T_lda (ds := emc m) rfl rfl rfl (Srd.old h (fun k _ => noOwns k)) rfl (by omega) hat) ?_; (refine qe (E_alloca rfl em_zero) ?_; rintro _ _ ⟨b6, rfl, rfl⟩); (refine qw (E_storew (cs := emc (0, 0, none, 0, [])) (ds := emc m) rfl rfl rfl rfl (emc_one _) rfl) ?_; rintro _ _ rfl); refine qz ?_; refine qq ?_; refine qs ?_; refine qt (T_loads (ds := emc m) rfl rfl rfl rfl rfl) ?_; ((refine qe (E_hv0 (f := 150) ⟨_, Tryz.func150, rfl, by kernel_rfl⟩ (fun w hS => rightEntry_any w m) rfl rfl (fun _ => rfl)) ?_; rintro _ _ ⟨_, rfl, _, rfl⟩); rw [hr]); refine qt (T_not rfl) ?_; refine qp ?_; refine qp ?_; refine qt (T_load rfl rfl rfl rfl) ?_; refine qp ?_; refine qd ?_; refine qd ?_; refine qz ?_; refine qT ?_; refine qs ?_; refine qp ?_; refine qz ?_)
      exact hB _ _ _ _ _ rfl rfl fun w' hS => ⟨(), rfl, trivial, hS.sublist (List.nil_sublist _)⟩
    · focus (refine qs ?_; refine qd ?_; refine qz ?_; refine qq ?_; refine qT ?_; refine qx ?_; refine qq ?_; refine qb ?_; refine qs ?_; refine qt (T_ixM (sz := 3) rfl rfl rfl rfl rfl rfl hne hjl) ?_; refine qt (T_lda (ds := emc m) rfl rfl rfl (Srd.old h (fun k _ => noOwns k)) rfl (by omega) hat) ?_; (refine qe (E_alloca rfl em_zero) ?_; rintro _ _ ⟨b6, rfl, rfl⟩); (refine qw (E_storew (cs := emc (0, 0, none, 0, [])) (ds := emc m) rfl rfl rfl rfl (emc_one _) rfl) ?_; rintro _ _ rfl); refine qz ?_; refine qq ?_; refine qs ?_; refine qt (T_loads (ds := emc m) rfl rfl rfl rfl rfl) ?_; ((refine qe (E_hv0 (f := 150) ⟨_, Tryz.func150, rfl, by kernel_rfl⟩ (fun w hS => rightEntry_any w m) rfl rfl (fun _ => rfl)) ?_; rintro _ _ ⟨_, rfl, _, rfl⟩); rw [hr]); refine qt (T_not rfl) ?_; refine qp ?_; refine qp ?_; refine qt (T_load rfl rfl rfl rfl) ?_; refine qp ?_; refine qf ?_; refine qp ?_; refine qz ?_; refine qF ?_; refine qx ?_; refine qr ?_; refine qp ?_; refine qt (T_load rfl rfl rfl rfl) ?_; refine qp ?_; refine qz ?_; refine RS_blk ?_; refine qr ?_; refine qt (T_addN rfl rfl (by unfold fits; omega)) ?_; refine qp ?_; refine qz ?_)
      exact hJ (j + 1, m.1) _ _ ⟨by show j + 1 ≤ _; omega, hnx rfl (by omega)⟩ (Sub.cons rfl (Sub.cons rfl (Sub.cons rfl (Sub.cons rfl Sub.nil)))) sub_st (by show Q.length - (j + 1) < _; omega)
  have hjn : j = Q.length := by omega
  subst hjn
  rw [List.take_length] at hok
  rw [hok] at hB
  focus (refine qs ?_; refine qf ?_; refine qz ?_; refine qq ?_; refine qF ?_; refine S_exit rfl rfl ?_; refine qs ?_; refine qp ?_; refine qz ?_)
  exact hB _ _ _ _ _ rfl rfl fun w' hS => ⟨(), rfl, trivial, hS.sublist (List.nil_sublist _)⟩
theorem baseB_eq (i t : Nat) : baseB (i, t) = (decide (i = 0) == decide (t = 0)) := by
  unfold baseB
  rw [Bool.eq_iff_iff]
  simp
  omega
set_option maxRecDepth 100000 in
set_option maxHeartbeats 4000000 in
theorem rightD_any (w : World) (a : At) (A : Option Addr) (c : Nat) (Q : List Em) (h : Rd w All 3 A Q.length (cellsL emc Q)) (hn : Q.length ≤ 100000) :
    Gives Tryz.prog 64 [.agg (lgc a A Q.length c).toArray] [] w (X := Unit) (fun _ => .bool (rightB a (Q.map emv))) (fun _ => True) (fun _ => []) := by
  refine gives_S Tryz.func64 rfl Tryz.ntmps64 Tryz.results64 (by simp) (St.enter w) (fun B hB => ?_)
  obtain ⟨i, t⟩ := a
  have hq : rightB (i, t) (Q.map emv) = (baseB (i, t) && decide (Q.length ≤ 16) && decide (i ≤ 18446744073709551614 - Q.length) && risingB (Q.map emv) t) := by rw [rightB_eq, List.length_map]
  rw [hq] at hB
  obtain ⟨r, hr⟩ : ∃ r, risingB (Q.map emv) t = r := ⟨_, rfl⟩
  rw [hr] at hB
  by_cases h16 : Q.length ≤ 16
  · by_cases hi0 : i = 0
    · by_cases ht0 : t = 0
      · have hb : baseB (i, t) = true := by rw [baseB_eq, decide_eq_true hi0, decide_eq_true ht0]; rfl
        by_cases hi : i ≤ 18446744073709551614 - Q.length
        · rw [hb, decide_eq_true h16, decide_eq_true hi, Bool.and_self, Bool.and_self, Bool.true_and] at hB
          focus (refine qs ?_; (refine qe (E_boxa (cs := lgc (i, t) A Q.length c) rfl) ?_; rintro _ _ ⟨b1, rfl, rfl⟩); refine qp ?_; refine qn ?_; refine qp ?_; refine qt (T_load rfl rfl rfl rfl) ?_; refine qp ?_; refine qd ?_; (iterate 3 refine qp ?_); refine qt (T_load rfl rfl rfl rfl) ?_; refine qd ?_; refine qp ?_; refine qp ?_; refine qt (T_load rfl rfl rfl rfl) ?_; refine qd ?_; refine qt (T_beq rfl rfl rfl rfl) ?_; (iterate 4 refine qp ?_); (iterate 2 refine qt (T_load rfl rfl rfl rfl) ?_; refine qp ?_); refine qt (T_convf rfl rfl rfl rfl (by unfold fits; omega)) ?_; refine qt (T_subN rfl rfl (by omega) (by unfold fits; omega)) ?_; refine qd ?_; (iterate 3 refine qp ?_); refine qt (T_load rfl rfl rfl rfl) ?_; refine qp ?_; refine qp ?_; refine qt (T_load rfl rfl rfl rfl) ?_; ((refine qe (E_hv0 (f := 139) ⟨_, Tryz.func139, rfl, by kernel_rfl⟩ (fun w hS => risingD_any w A c Q t ((Srd.old h (fun k _ => noOwns k)).rd w hS) hn) rfl rfl (fun _ => rfl)) ?_; rintro _ _ ⟨_, rfl, _, rfl⟩); rw [hr]); refine qp ?_; refine qp ?_; refine qz ?_)
          exact hB _ _ _ _ _ rfl rfl fun w' hS => ⟨(), rfl, trivial, hS.sublist (List.nil_sublist _)⟩
        · exact absurd hi (by omega)
      · have hb : baseB (i, t) = false := by rw [baseB_eq, decide_eq_true hi0, decide_eq_false ht0]; rfl
        rw [hb, Bool.false_and, Bool.false_and, Bool.false_and] at hB
        focus (refine qs ?_; (refine qe (E_boxa (cs := lgc (i, t) A Q.length c) rfl) ?_; rintro _ _ ⟨b1, rfl, rfl⟩); refine qp ?_; refine qn ?_; refine qp ?_; refine qt (T_load rfl rfl rfl rfl) ?_; refine qp ?_; refine qd ?_; (iterate 3 refine qp ?_); refine qt (T_load rfl rfl rfl rfl) ?_; refine qd ?_; refine qp ?_; refine qp ?_; refine qt (T_load rfl rfl rfl rfl) ?_; refine qf ?_; refine qt (T_beq rfl rfl rfl rfl) ?_; refine qp ?_; refine qp ?_; (iterate 9 refine qk ?_); refine qp ?_; refine qp ?_; (iterate 6 refine qk ?_); refine qp ?_; refine qp ?_; refine qz ?_)
        exact hB _ _ _ _ _ rfl rfl fun w' hS => ⟨(), rfl, trivial, hS.sublist (List.nil_sublist _)⟩
    · by_cases ht0 : t = 0
      · have hb : baseB (i, t) = false := by rw [baseB_eq, decide_eq_false hi0, decide_eq_true ht0]; rfl
        rw [hb, Bool.false_and, Bool.false_and, Bool.false_and] at hB
        focus (refine qs ?_; (refine qe (E_boxa (cs := lgc (i, t) A Q.length c) rfl) ?_; rintro _ _ ⟨b1, rfl, rfl⟩); refine qp ?_; refine qn ?_; refine qp ?_; refine qt (T_load rfl rfl rfl rfl) ?_; refine qp ?_; refine qd ?_; (iterate 3 refine qp ?_); refine qt (T_load rfl rfl rfl rfl) ?_; refine qf ?_; refine qp ?_; refine qp ?_; refine qt (T_load rfl rfl rfl rfl) ?_; refine qd ?_; refine qt (T_beq rfl rfl rfl rfl) ?_; refine qp ?_; refine qp ?_; (iterate 9 refine qk ?_); refine qp ?_; refine qp ?_; (iterate 6 refine qk ?_); refine qp ?_; refine qp ?_; refine qz ?_)
        exact hB _ _ _ _ _ rfl rfl fun w' hS => ⟨(), rfl, trivial, hS.sublist (List.nil_sublist _)⟩
      · have hb : baseB (i, t) = true := by rw [baseB_eq, decide_eq_false hi0, decide_eq_false ht0]; rfl
        by_cases hi : i ≤ 18446744073709551614 - Q.length
        · rw [hb, decide_eq_true h16, decide_eq_true hi, Bool.and_self, Bool.and_self, Bool.true_and] at hB
          focus (refine qs ?_; (refine qe (E_boxa (cs := lgc (i, t) A Q.length c) rfl) ?_; rintro _ _ ⟨b1, rfl, rfl⟩); refine qp ?_; refine qn ?_; refine qp ?_; refine qt (T_load rfl rfl rfl rfl) ?_; refine qp ?_; refine qd ?_; (iterate 3 refine qp ?_); refine qt (T_load rfl rfl rfl rfl) ?_; refine qf ?_; refine qp ?_; refine qp ?_; refine qt (T_load rfl rfl rfl rfl) ?_; refine qf ?_; refine qt (T_beq rfl rfl rfl rfl) ?_; (iterate 4 refine qp ?_); (iterate 2 refine qt (T_load rfl rfl rfl rfl) ?_; refine qp ?_); refine qt (T_convf rfl rfl rfl rfl (by unfold fits; omega)) ?_; refine qt (T_subN rfl rfl (by omega) (by unfold fits; omega)) ?_; refine qd ?_; (iterate 3 refine qp ?_); refine qt (T_load rfl rfl rfl rfl) ?_; refine qp ?_; refine qp ?_; refine qt (T_load rfl rfl rfl rfl) ?_; ((refine qe (E_hv0 (f := 139) ⟨_, Tryz.func139, rfl, by kernel_rfl⟩ (fun w hS => risingD_any w A c Q t ((Srd.old h (fun k _ => noOwns k)).rd w hS) hn) rfl rfl (fun _ => rfl)) ?_; rintro _ _ ⟨_, rfl, _, rfl⟩); rw [hr]); refine qp ?_; refine qp ?_; refine qz ?_)
          exact hB _ _ _ _ _ rfl rfl fun w' hS => ⟨(), rfl, trivial, hS.sublist (List.nil_sublist _)⟩
        · rw [hb, decide_eq_false hi, Bool.and_false, Bool.false_and] at hB
          focus (refine qs ?_; (refine qe (E_boxa (cs := lgc (i, t) A Q.length c) rfl) ?_; rintro _ _ ⟨b1, rfl, rfl⟩); refine qp ?_; refine qn ?_; refine qp ?_; refine qt (T_load rfl rfl rfl rfl) ?_; refine qp ?_; refine qd ?_; (iterate 3 refine qp ?_); refine qt (T_load rfl rfl rfl rfl) ?_; refine qf ?_; refine qp ?_; refine qp ?_; refine qt (T_load rfl rfl rfl rfl) ?_; refine qf ?_; refine qt (T_beq rfl rfl rfl rfl) ?_; (iterate 4 refine qp ?_); (iterate 2 refine qt (T_load rfl rfl rfl rfl) ?_; refine qp ?_); refine qt (T_convf rfl rfl rfl rfl (by unfold fits; omega)) ?_; refine qt (T_subN rfl rfl (by omega) (by unfold fits; omega)) ?_; refine qf ?_; refine qp ?_; refine qp ?_; (iterate 6 refine qk ?_); refine qp ?_; refine qp ?_; refine qz ?_)
          exact hB _ _ _ _ _ rfl rfl fun w' hS => ⟨(), rfl, trivial, hS.sublist (List.nil_sublist _)⟩
  · rw [decide_eq_false h16, Bool.and_false, Bool.false_and, Bool.false_and] at hB
    focus (refine qs ?_; (refine qe (E_boxa (cs := lgc (i, t) A Q.length c) rfl) ?_; rintro _ _ ⟨b1, rfl, rfl⟩); refine qp ?_; refine qn ?_; refine qp ?_; refine qt (T_load rfl rfl rfl rfl) ?_; refine qp ?_; refine qf ?_; (iterate 2 refine qp ?_; (iterate 9 refine qk ?_); refine qp ?_); refine qp ?_; (iterate 6 refine qk ?_); refine qp ?_; refine qp ?_; refine qz ?_)
    exact hB _ _ _ _ _ rfl rfl fun w' hS => ⟨(), rfl, trivial, hS.sublist (List.nil_sublist _)⟩
set_option maxRecDepth 100000 in
set_option maxHeartbeats 4000000 in
theorem placeD_any (w : World) (a : At) (A : Option Addr) (c k : Nat) (Q : List Em) (l : List En) (hk : Q.length = k) (hl : Q.map emv = l) (h : Rd w All 3 A k (cellsL emc Q)) (hn : k ≤ 100000) (hf : a.1 + k ≤ 18446744073709551615) (j : Nat) (hj : j ≤ k) (p : At) (hp : placeN a l j = p) :
    Gives Tryz.prog 140 [.agg (lgc a A k c).toArray, .int .i64 (j : Int)] [] w (X := Unit) (fun _ => .agg (atc p).toArray) (fun _ => True) (fun _ => []) := by
  refine gives_C Tryz.func140 rfl Tryz.ntmps140 Tryz.results140 (by simp) (St.enter w) (fun B hB => ?_)
  obtain ⟨i, t⟩ := a
  have hf : i + k ≤ 18446744073709551615 := hf
  by_cases h0 : j = 0
  · have e1 : p = (i, t) := by rw [← hp, placeN, if_pos h0]
    rw [e1] at hB
    focus (refine qs ?_; (refine qe (E_boxa (cs := lgc (i, t) A k c) rfl) ?_; rintro _ _ ⟨b1, rfl, rfl⟩); (refine qe (E_alloca rfl at_zero) ?_; rintro _ _ ⟨b2, rfl, rfl⟩); refine qz ?_; refine qq ?_; refine qs ?_; refine qp ?_; refine qd ?_; refine qz ?_; refine qT ?_; refine qs ?_; refine qp ?_; refine qt (T_loads (ds := atc (i, t)) rfl rfl rfl rfl rfl) ?_; (refine qw (E_storew (cs := atc (0, 0)) (ds := atc (i, t)) rfl rfl rfl rfl (atc_one _) rfl) ?_; rintro _ _ rfl); refine qz ?_)
    refine hB _ _ _ _ _ rfl (.cell rfl rfl rfl inferInstance rfl .nil) fun w' hS => ⟨(), rfl, trivial, hS.sublist (List.nil_sublist _)⟩
  · have hne : A ≠ none := by obtain ⟨ad, rfl, _⟩ := h.2 (by omega); simp
    have hat := cellsL_at (f := emc) emc_len Q default (j - 1) (by omega)
    have hlt : j - 1 < k := by omega
    have e1 : p = (i + j, (Q.getD (j - 1) default).1) := by
      have := placeN_at (i, t) Q (j - 1) (by omega) rfl
      rw [show j - 1 + 1 = j by omega, hl, hp] at this
      exact this
    obtain ⟨m, hm⟩ : ∃ m, Q.getD (j - 1) default = m := ⟨_, rfl⟩
    rw [hm] at hat e1
    rw [e1] at hB
    have hat0 : (cellsL emc Q)[(j - 1) * 3 + 0]? = some (.int .u64 (m.1 : Int)) := hat 0 _ rfl
    focus (refine qs ?_; (refine qe (E_boxa (cs := lgc (i, t) A k c) rfl) ?_; rintro _ _ ⟨b1, rfl, rfl⟩); (refine qe (E_alloca rfl at_zero) ?_; rintro _ _ ⟨b2, rfl, rfl⟩); refine qz ?_; refine qq ?_; refine qs ?_; refine qp ?_; refine qf ?_; refine qz ?_; refine qF ?_; refine qx ?_; refine qq ?_)
    refine S_draw ([pt b1 39 (lgc (i, t) A k c)]) sub_st (by kernel_rfl) rfl (by kernel_rfl) (by kernel_rfl : _ = 15) ?_
    refine dt 0 rfl (pev_ok rfl) ?_
    refine dt 1 rfl (pev_ok rfl) ?_
    refine dt 2 rfl (T_load rfl rfl rfl rfl) ?_
    refine dt 3 rfl (pev_ok rfl) ?_
    (refine dt 4 rfl (T_convf rfl rfl rfl rfl (by unfold fits; omega)) ?_)
    (refine dt 5 rfl (T_addN rfl rfl (by unfold fits; omega)) ?_)
    refine dt 6 rfl (pev_ok rfl) ?_
    refine dt 7 rfl (T_load rfl rfl rfl rfl) ?_
    refine dt 8 rfl (pev_ok rfl) ?_
    (refine dt 9 rfl (T_subN rfl rfl (by omega) (by unfold fits; omega)) ?_)
    refine dt 10 rfl (T_ixM (sz := 3) (q := j - 1) rfl rfl rfl rfl rfl rfl hne hlt) ?_
    refine dt 11 rfl (T_fap rfl rfl rfl rfl rfl hne) ?_
    refine dt 12 rfl (T_ldr rfl rfl rfl (Srd.old h (fun k _ => noOwns k)) (by omega) hat0) ?_
    refine dt 13 rfl (T_build2 rfl rfl (at_built2 (i + j) m.1)) ?_
    refine D_one 14 rfl (E_storew (cs := atc (0, 0)) (ds := atc (i + j, m.1)) rfl rfl rfl rfl (atc_one _) rfl) ?_ rfl rfl (by kernel_rfl)
    rintro _ _ rfl
    refine Nx_same sub_st ?_
    refine D_done ?_ (by kernel_rfl)
    skip
    skip
    refine hB _ _ _ _ _ rfl (.cell rfl rfl rfl inferInstance rfl .nil) fun w' hS => ⟨(), rfl, trivial, hS.sublist (List.nil_sublist _)⟩
theorem lastA_place (a : At) (Q : List Em) : placeN a (Q.map emv) Q.length = lastA a (Q.map emv) := by
  rw [lastA, List.length_map]
  by_cases h0 : Q.length = 0
  · rw [List.eq_nil_of_length_eq_zero h0]
    rfl
  · rw [lastT_at Q _ (by omega)]
    have := placeN_at a Q (Q.length - 1) (by omega) rfl
    rw [show Q.length - 1 + 1 = Q.length by omega] at this
    exact this
set_option maxRecDepth 100000 in
set_option maxHeartbeats 4000000 in
theorem lastD_any (w : World) (a : At) (A : Option Addr) (c k : Nat) (Q : List Em) (l : List En) (hk : Q.length = k) (hl : Q.map emv = l) (h : Rd w All 3 A k (cellsL emc Q)) (hn : k ≤ 100000) (hf : a.1 + k ≤ 18446744073709551615) (p : At) (hp : lastA a l = p) :
    Gives Tryz.prog 67 [.agg (lgc a A k c).toArray] [] w (X := Unit) (fun _ => .agg (atc p).toArray) (fun _ => True) (fun _ => []) := by
  refine gives_C Tryz.func67 rfl Tryz.ntmps67 Tryz.results67 (by simp) (St.enter w) (fun B hB => ?_)
  have hp : placeN a l k = p := by rw [← hp, ← hl, ← hk]; exact lastA_place a Q
  focus (refine qs ?_; (refine qe (E_boxa (cs := lgc a A k c) rfl) ?_; rintro _ _ ⟨b1, rfl, rfl⟩); (refine qe (E_alloca rfl at_zero) ?_; rintro _ _ ⟨b2, rfl, rfl⟩); refine qn ?_; refine qt (T_loads (ds := lgc a A k c) rfl rfl rfl rfl rfl) ?_; refine qp ?_; refine qt (T_load rfl rfl rfl rfl) ?_; refine qp ?_; (refine qe (E_hv0 (f := 140) ⟨_, Tryz.func140, rfl, by kernel_rfl⟩ (fun w hS => placeD_any w a A c k Q l hk hl ((Srd.old h (fun k _ => noOwns k)).rd w hS) hn hf k (Nat.le_refl _) p hp) rfl rfl (fun _ => rfl)) ?_; rintro _ _ ⟨_, rfl, _, rfl⟩); (refine qw (E_storew (cs := atc (0, 0)) (ds := atc p) rfl rfl rfl rfl (atc_one _) rfl) ?_; rintro _ _ rfl); refine qz ?_)
  refine hB _ _ _ _ _ rfl (.cell rfl rfl rfl inferInstance rfl .nil) fun w' hS => ⟨(), rfl, trivial, hS.sublist (List.nil_sublist _)⟩
set_option maxRecDepth 100000 in
set_option maxHeartbeats 4000000 in
theorem sameE_any (w : World) (A A2 : Option Addr) (c c2' : Nat) (Q M : List Em) (h : Rd w All 3 A Q.length (cellsL emc Q)) (h2 : Rd w All 3 A2 M.length (cellsL emc M)) (hq : ∀ m ∈ Q, BsM w m) (hm : ∀ m ∈ M, BsM w m) (hn : Q.length ≤ 100000) (hn2 : M.length ≤ 100000) :
    Gives Tryz.prog 141 [.slice A Q.length c, .slice A2 M.length c2'] [] w (X := Unit) (fun _ => .bool (decide (Q.map emv = M.map emv))) (fun _ => True) (fun _ => []) := by
  refine gives_S Tryz.func141 rfl Tryz.ntmps141 Tryz.results141 (by simp) (St.enter w) (fun B hB => ?_)
  have hne : 0 < Q.length → A ≠ none := fun h0 => by obtain ⟨ad, rfl, _⟩ := h.2 (by omega); simp
  have hne2 : 0 < M.length → A2 ≠ none := fun h0 => by obtain ⟨ad, rfl, _⟩ := h2.2 (by omega); simp
  by_cases hlm : Q.length = M.length
  · skip
    focus (refine qs ?_; refine qp ?_; refine qz ?_; refine qq ?_; refine qs ?_; (iterate 4 refine qp ?_); refine qf ?_; refine qz ?_; refine qF ?_; refine qx ?_; refine qq ?_; refine qs ?_; (iterate 3 refine qp ?_); refine qz ?_; refine qb ?_)
    refine S_loop (X := Nat) (fun j => [(0, .slice A Q.length c), (1, .slice A2 M.length c2'), (12, .int .i64 (Q.length : Int)), (13, .int .i64 (j : Int))]) (fun _ => []) (fun j => j ≤ Q.length ∧ ∀ i, i < j → (Q.map emv).getD i default = (M.map emv).getD i default) (fun j => Q.length - j) rfl 0 ⟨Nat.zero_le _, fun i hi => by omega⟩ (Sub.cons rfl (Sub.cons rfl (Sub.cons rfl (Sub.cons rfl Sub.nil)))) (fun _ h => h) ?_
    rintro j ⟨hj, hok⟩ J hJ
    rcases Nat.lt_or_ge j Q.length with hjl | hjl
    · have hne := hne (by omega)
      have hne2 := hne2 (by omega)
      have hjm : j < M.length := by omega
      have hat := cellsL_at (f := emc) emc_len Q default j hjl
      have hat2 := cellsL_at (f := emc) emc_len M default j hjm
      have eq1 : (Q.map emv).getD j default = emv (Q.getD j default) := by simp [List.getD, hjl]
      have eq2 : (M.map emv).getD j default = emv (M.getD j default) := by simp [List.getD, hjm]
      have hb1 := hq (Q.getD j default) (by simp [List.getD, hjl])
      have hb2 := hm (M.getD j default) (by simp [List.getD, hjm])
      have hnx : emv (Q.getD j default) = emv (M.getD j default) → ∀ i, i < j + 1 → (Q.map emv).getD i default = (M.map emv).getD i default := fun e i hi => by
        rcases Nat.lt_or_ge i j with h3 | h3
        · exact hok i h3
        · rw [show i = j by omega, eq1, eq2]; exact e
      have hne3 : emv (Q.getD j default) ≠ emv (M.getD j default) → ¬ Q.map emv = M.map emv := fun e e2 => e (by rw [← eq1, ← eq2, e2])
      obtain ⟨⟨t, k, B1, c1, l⟩, hx⟩ : ∃ x, Q.getD j default = x := ⟨_, rfl⟩
      obtain ⟨⟨t2, k2, B2, c2, l2⟩, hy⟩ : ∃ y, M.getD j default = y := ⟨_, rfl⟩
      rw [hx] at hat hnx hne3 hb1
      rw [hy] at hat2 hnx hne3 hb2
      have hb1 : Bs w All B1 l.length c1 l := hb1
      have hb2 : Bs w All B2 l2.length c2 l2 := hb2
      have hat0 : (cellsL emc Q)[j * 3 + 0]? = some (.int .u64 (t : Int)) := hat 0 _ rfl
      have hat1 : (cellsL emc Q)[j * 3 + 1]? = some (.int .i64 k) := hat 1 _ rfl
      have hat2' : (cellsL emc Q)[j * 3 + 2]? = some (.slice B1 l.length c1) := hat 2 _ rfl
      have hau0 : (cellsL emc M)[j * 3 + 0]? = some (.int .u64 (t2 : Int)) := hat2 0 _ rfl
      have hau1 : (cellsL emc M)[j * 3 + 1]? = some (.int .i64 k2) := hat2 1 _ rfl
      have hau2 : (cellsL emc M)[j * 3 + 2]? = some (.slice B2 l2.length c2) := hat2 2 _ rfl
      have hsc : scmp .neq (bl ⟨l.toArray⟩) (bl ⟨l2.toArray⟩) = some (!decide (l = l2)) := by simp [scmp, bl]; first | done | exact decide_not | rfl | congr
      by_cases h3 : t = t2
      · by_cases h4 : k = k2
        · by_cases h5 : l = l2
          · rw [decide_eq_true h5] at hsc
            focus (refine qs ?_; refine qd ?_; refine qz ?_; refine qq ?_; refine qT ?_; refine qx ?_; refine qq ?_; refine qb ?_; refine qs ?_; refine qp ?_; refine qp ?_; refine qz ?_; refine qq ?_; (refine S_draw _ (fun _ h => h) (by kernel_rfl) rfl (by kernel_rfl) (rfl : _ = 39) ?_; (refine dt 0 rfl (pev_ok rfl) ?_); (refine dt 1 rfl (pev_ok rfl) ?_); (refine dt 2 rfl (T_ixM (sz := 3) rfl rfl rfl rfl rfl rfl hne hjl) ?_); (refine dt 3 rfl (T_fap rfl rfl rfl rfl rfl hne) ?_); (refine dt 4 rfl (T_ldr rfl rfl rfl (Srd.old h (fun k _ => noOwns k)) (by omega) hat0) ?_); (refine dt 5 rfl (pev_ok rfl) ?_); (refine dt 6 rfl (pev_ok rfl) ?_); (refine dt 7 rfl (T_ixM (sz := 3) rfl rfl rfl rfl rfl rfl hne2 hjm) ?_); (refine dt 8 rfl (T_fap rfl rfl rfl rfl rfl hne2) ?_); (refine dt 9 rfl (T_ldr rfl rfl rfl (Srd.old h2 (fun k _ => noOwns k)) (by omega) hau0) ?_); (refine dt 10 rfl (T_decF rfl (by omega)) ?_); (refine dt 11 rfl (pev_ok rfl) ?_); (refine dt 12 rfl (pev_ok rfl) ?_); (refine dt 13 rfl (pev_ok rfl) ?_); (refine dt 14 rfl (T_ixM (sz := 3) rfl rfl rfl rfl rfl rfl hne hjl) ?_); (refine dt 15 rfl (T_fap rfl rfl rfl rfl rfl hne) ?_); (refine dt 16 rfl (T_ldr rfl rfl rfl (Srd.old h (fun k _ => noOwns k)) (by omega) hat1) ?_); (refine dt 17 rfl (pev_ok rfl) ?_); (refine dt 18 rfl (pev_ok rfl) ?_); (refine dt 19 rfl (T_ixM (sz := 3) rfl rfl rfl rfl rfl rfl hne2 hjm) ?_); (refine dt 20 rfl (T_fap rfl rfl rfl rfl rfl hne2) ?_); (refine dt 21 rfl (T_ldr rfl rfl rfl (Srd.old h2 (fun k _ => noOwns k)) (by omega) hau1) ?_); (refine dt 22 rfl (T_decF rfl (by omega)) ?_); (refine dt 23 rfl (pev_ok rfl) ?_); (refine dt 24 rfl (pev_ok rfl) ?_); (refine dt 25 rfl (pev_ok rfl) ?_); (refine dt 26 rfl (pev_ok rfl) ?_); (refine dt 27 rfl (T_ixM (sz := 3) rfl rfl rfl rfl rfl rfl hne hjl) ?_); (refine dt 28 rfl (T_fap rfl rfl rfl rfl rfl hne) ?_); (refine dt 29 rfl (T_ldr rfl rfl rfl (Srd.old h (fun k _ => noOwns k)) (by omega) hat2') ?_); (refine dt 30 rfl (T_b2s rfl rfl rfl rfl rfl rfl rfl (Src.old hb1 (fun k _ => noOwns k))) ?_); (refine dt 31 rfl (pev_ok rfl) ?_); (refine dt 32 rfl (pev_ok rfl) ?_); (refine dt 33 rfl (T_ixM (sz := 3) rfl rfl rfl rfl rfl rfl hne2 hjm) ?_); (refine dt 34 rfl (T_fap rfl rfl rfl rfl rfl hne2) ?_); (refine dt 35 rfl (T_ldr rfl rfl rfl (Srd.old h2 (fun k _ => noOwns k)) (by omega) hau2) ?_); (refine dt 36 rfl (T_b2s rfl rfl rfl rfl rfl rfl rfl (Src.old hb2 (fun k _ => noOwns k))) ?_); (refine dt 37 rfl (T_scmp (r := ⟨l.toArray⟩) (s := ⟨l2.toArray⟩) rfl rfl hsc) ?_); (refine dt 38 rfl (pev_ok rfl) ?_); refine D_done ?_ (by kernel_rfl)); refine qF ?_; refine qx ?_; refine RS_blk ?_; refine qr ?_; refine qt (T_addN rfl rfl (by unfold fits; omega)) ?_; refine qp ?_; refine qz ?_)
            exact hJ (j + 1) _ _ ⟨by omega, hnx (by rw [h3, h4, h5]; rfl)⟩ (Sub.cons rfl (Sub.cons rfl (Sub.cons rfl (Sub.cons rfl Sub.nil)))) (fun _ h => h.sublist (List.nil_sublist _)) (by omega)
          · rw [decide_eq_false h5] at hsc
            rw [decide_eq_false (hne3 (fun e => h5 (congrArg (fun x : En => x.2.2) e)))] at hB
            focus (refine qs ?_; refine qd ?_; refine qz ?_; refine qq ?_; refine qT ?_; refine qx ?_; refine qq ?_; refine qb ?_; refine qs ?_; refine qp ?_; refine qp ?_; refine qz ?_; refine qq ?_; (refine S_draw _ (fun _ h => h) (by kernel_rfl) rfl (by kernel_rfl) (rfl : _ = 39) ?_; (refine dt 0 rfl (pev_ok rfl) ?_); (refine dt 1 rfl (pev_ok rfl) ?_); (refine dt 2 rfl (T_ixM (sz := 3) rfl rfl rfl rfl rfl rfl hne hjl) ?_); (refine dt 3 rfl (T_fap rfl rfl rfl rfl rfl hne) ?_); (refine dt 4 rfl (T_ldr rfl rfl rfl (Srd.old h (fun k _ => noOwns k)) (by omega) hat0) ?_); (refine dt 5 rfl (pev_ok rfl) ?_); (refine dt 6 rfl (pev_ok rfl) ?_); (refine dt 7 rfl (T_ixM (sz := 3) rfl rfl rfl rfl rfl rfl hne2 hjm) ?_); (refine dt 8 rfl (T_fap rfl rfl rfl rfl rfl hne2) ?_); (refine dt 9 rfl (T_ldr rfl rfl rfl (Srd.old h2 (fun k _ => noOwns k)) (by omega) hau0) ?_); (refine dt 10 rfl (T_decF rfl (by omega)) ?_); (refine dt 11 rfl (pev_ok rfl) ?_); (refine dt 12 rfl (pev_ok rfl) ?_); (refine dt 13 rfl (pev_ok rfl) ?_); (refine dt 14 rfl (T_ixM (sz := 3) rfl rfl rfl rfl rfl rfl hne hjl) ?_); (refine dt 15 rfl (T_fap rfl rfl rfl rfl rfl hne) ?_); (refine dt 16 rfl (T_ldr rfl rfl rfl (Srd.old h (fun k _ => noOwns k)) (by omega) hat1) ?_); (refine dt 17 rfl (pev_ok rfl) ?_); (refine dt 18 rfl (pev_ok rfl) ?_); (refine dt 19 rfl (T_ixM (sz := 3) rfl rfl rfl rfl rfl rfl hne2 hjm) ?_); (refine dt 20 rfl (T_fap rfl rfl rfl rfl rfl hne2) ?_); (refine dt 21 rfl (T_ldr rfl rfl rfl (Srd.old h2 (fun k _ => noOwns k)) (by omega) hau1) ?_); (refine dt 22 rfl (T_decF rfl (by omega)) ?_); (refine dt 23 rfl (pev_ok rfl) ?_); (refine dt 24 rfl (pev_ok rfl) ?_); (refine dt 25 rfl (pev_ok rfl) ?_); (refine dt 26 rfl (pev_ok rfl) ?_); (refine dt 27 rfl (T_ixM (sz := 3) rfl rfl rfl rfl rfl rfl hne hjl) ?_); (refine dt 28 rfl (T_fap rfl rfl rfl rfl rfl hne) ?_); (refine dt 29 rfl (T_ldr rfl rfl rfl (Srd.old h (fun k _ => noOwns k)) (by omega) hat2') ?_); (refine dt 30 rfl (T_b2s rfl rfl rfl rfl rfl rfl rfl (Src.old hb1 (fun k _ => noOwns k))) ?_); (refine dt 31 rfl (pev_ok rfl) ?_); (refine dt 32 rfl (pev_ok rfl) ?_); (refine dt 33 rfl (T_ixM (sz := 3) rfl rfl rfl rfl rfl rfl hne2 hjm) ?_); (refine dt 34 rfl (T_fap rfl rfl rfl rfl rfl hne2) ?_); (refine dt 35 rfl (T_ldr rfl rfl rfl (Srd.old h2 (fun k _ => noOwns k)) (by omega) hau2) ?_); (refine dt 36 rfl (T_b2s rfl rfl rfl rfl rfl rfl rfl (Src.old hb2 (fun k _ => noOwns k))) ?_); (refine dt 37 rfl (T_scmp (r := ⟨l.toArray⟩) (s := ⟨l2.toArray⟩) rfl rfl hsc) ?_); (refine dt 38 rfl (pev_ok rfl) ?_); refine D_done ?_ (by kernel_rfl)); refine qT ?_; refine qs ?_; refine qp ?_; refine qz ?_)
            exact hB _ _ _ _ _ rfl rfl fun w' hS => ⟨(), rfl, trivial, hS.sublist (List.nil_sublist _)⟩
        · rw [decide_eq_false (hne3 (fun e => h4 (congrArg (fun x : En => x.2.1) e)))] at hB
          focus (refine qs ?_; refine qd ?_; refine qz ?_; refine qq ?_; refine qT ?_; refine qx ?_; refine qq ?_; refine qb ?_; refine qs ?_; refine qp ?_; refine qp ?_; refine qz ?_; refine qq ?_; (refine S_draw _ (fun _ h => h) (by kernel_rfl) rfl (by kernel_rfl) (rfl : _ = 39) ?_; (refine dt 0 rfl (pev_ok rfl) ?_); (refine dt 1 rfl (pev_ok rfl) ?_); (refine dt 2 rfl (T_ixM (sz := 3) rfl rfl rfl rfl rfl rfl hne hjl) ?_); (refine dt 3 rfl (T_fap rfl rfl rfl rfl rfl hne) ?_); (refine dt 4 rfl (T_ldr rfl rfl rfl (Srd.old h (fun k _ => noOwns k)) (by omega) hat0) ?_); (refine dt 5 rfl (pev_ok rfl) ?_); (refine dt 6 rfl (pev_ok rfl) ?_); (refine dt 7 rfl (T_ixM (sz := 3) rfl rfl rfl rfl rfl rfl hne2 hjm) ?_); (refine dt 8 rfl (T_fap rfl rfl rfl rfl rfl hne2) ?_); (refine dt 9 rfl (T_ldr rfl rfl rfl (Srd.old h2 (fun k _ => noOwns k)) (by omega) hau0) ?_); (refine dt 10 rfl (T_decF rfl (by omega)) ?_); (refine dt 11 rfl (pev_ok rfl) ?_); (refine dt 12 rfl (pev_ok rfl) ?_); (refine dt 13 rfl (pev_ok rfl) ?_); (refine dt 14 rfl (T_ixM (sz := 3) rfl rfl rfl rfl rfl rfl hne hjl) ?_); (refine dt 15 rfl (T_fap rfl rfl rfl rfl rfl hne) ?_); (refine dt 16 rfl (T_ldr rfl rfl rfl (Srd.old h (fun k _ => noOwns k)) (by omega) hat1) ?_); (refine dt 17 rfl (pev_ok rfl) ?_); (refine dt 18 rfl (pev_ok rfl) ?_); (refine dt 19 rfl (T_ixM (sz := 3) rfl rfl rfl rfl rfl rfl hne2 hjm) ?_); (refine dt 20 rfl (T_fap rfl rfl rfl rfl rfl hne2) ?_); (refine dt 21 rfl (T_ldr rfl rfl rfl (Srd.old h2 (fun k _ => noOwns k)) (by omega) hau1) ?_); (refine dt 22 rfl (T_decT rfl (by omega)) ?_); (refine dt 23 rfl (pev_ok rfl) ?_); (refine dt 24 rfl (pev_ok rfl) ?_); (refine D_skip 25 rfl ?_ rfl rfl (by kernel_rfl) (by kernel_rfl)); (refine D_skip 26 rfl ?_ rfl rfl (by kernel_rfl) (by kernel_rfl)); (refine D_skip 27 rfl ?_ rfl rfl (by kernel_rfl) (by kernel_rfl)); (refine D_skip 28 rfl ?_ rfl rfl (by kernel_rfl) (by kernel_rfl)); (refine D_skip 29 rfl ?_ rfl rfl (by kernel_rfl) (by kernel_rfl)); (refine D_skip 30 rfl ?_ rfl rfl (by kernel_rfl) (by kernel_rfl)); (refine D_skip 31 rfl ?_ rfl rfl (by kernel_rfl) (by kernel_rfl)); (refine D_skip 32 rfl ?_ rfl rfl (by kernel_rfl) (by kernel_rfl)); (refine D_skip 33 rfl ?_ rfl rfl (by kernel_rfl) (by kernel_rfl)); (refine D_skip 34 rfl ?_ rfl rfl (by kernel_rfl) (by kernel_rfl)); (refine D_skip 35 rfl ?_ rfl rfl (by kernel_rfl) (by kernel_rfl)); (refine D_skip 36 rfl ?_ rfl rfl (by kernel_rfl) (by kernel_rfl)); (refine D_skip 37 rfl ?_ rfl rfl (by kernel_rfl) (by kernel_rfl)); (refine dt 38 rfl (pev_ok rfl) ?_); refine D_done ?_ (by kernel_rfl)); refine qT ?_; refine qs ?_; refine qp ?_; refine qz ?_)
          exact hB _ _ _ _ _ rfl rfl fun w' hS => ⟨(), rfl, trivial, hS.sublist (List.nil_sublist _)⟩
      · rw [decide_eq_false (hne3 (fun e => h3 (congrArg (fun x : En => x.1) e)))] at hB
        focus (refine qs ?_; refine qd ?_; refine qz ?_; refine qq ?_; refine qT ?_; refine qx ?_; refine qq ?_; refine qb ?_; refine qs ?_; refine qp ?_; refine qp ?_; refine qz ?_; refine qq ?_; (refine S_draw _ (fun _ h => h) (by kernel_rfl) rfl (by kernel_rfl) (rfl : _ = 39) ?_; (refine dt 0 rfl (pev_ok rfl) ?_); (refine dt 1 rfl (pev_ok rfl) ?_); (refine dt 2 rfl (T_ixM (sz := 3) rfl rfl rfl rfl rfl rfl hne hjl) ?_); (refine dt 3 rfl (T_fap rfl rfl rfl rfl rfl hne) ?_); (refine dt 4 rfl (T_ldr rfl rfl rfl (Srd.old h (fun k _ => noOwns k)) (by omega) hat0) ?_); (refine dt 5 rfl (pev_ok rfl) ?_); (refine dt 6 rfl (pev_ok rfl) ?_); (refine dt 7 rfl (T_ixM (sz := 3) rfl rfl rfl rfl rfl rfl hne2 hjm) ?_); (refine dt 8 rfl (T_fap rfl rfl rfl rfl rfl hne2) ?_); (refine dt 9 rfl (T_ldr rfl rfl rfl (Srd.old h2 (fun k _ => noOwns k)) (by omega) hau0) ?_); (refine dt 10 rfl (T_decT rfl (by omega)) ?_); (refine dt 11 rfl (pev_ok rfl) ?_); (refine D_skip 12 rfl ?_ rfl rfl (by kernel_rfl) (by kernel_rfl)); (refine D_skip 13 rfl ?_ rfl rfl (by kernel_rfl) (by kernel_rfl)); (refine D_skip 14 rfl ?_ rfl rfl (by kernel_rfl) (by kernel_rfl)); (refine D_skip 15 rfl ?_ rfl rfl (by kernel_rfl) (by kernel_rfl)); (refine D_skip 16 rfl ?_ rfl rfl (by kernel_rfl) (by kernel_rfl)); (refine D_skip 17 rfl ?_ rfl rfl (by kernel_rfl) (by kernel_rfl)); (refine D_skip 18 rfl ?_ rfl rfl (by kernel_rfl) (by kernel_rfl)); (refine D_skip 19 rfl ?_ rfl rfl (by kernel_rfl) (by kernel_rfl)); (refine D_skip 20 rfl ?_ rfl rfl (by kernel_rfl) (by kernel_rfl)); (refine D_skip 21 rfl ?_ rfl rfl (by kernel_rfl) (by kernel_rfl)); (refine D_skip 22 rfl ?_ rfl rfl (by kernel_rfl) (by kernel_rfl)); (refine dt 23 rfl (pev_ok rfl) ?_); (refine dt 24 rfl (pev_ok rfl) ?_); (refine D_skip 25 rfl ?_ rfl rfl (by kernel_rfl) (by kernel_rfl)); (refine D_skip 26 rfl ?_ rfl rfl (by kernel_rfl) (by kernel_rfl)); (refine D_skip 27 rfl ?_ rfl rfl (by kernel_rfl) (by kernel_rfl)); (refine D_skip 28 rfl ?_ rfl rfl (by kernel_rfl) (by kernel_rfl)); (refine D_skip 29 rfl ?_ rfl rfl (by kernel_rfl) (by kernel_rfl)); (refine D_skip 30 rfl ?_ rfl rfl (by kernel_rfl) (by kernel_rfl)); (refine D_skip 31 rfl ?_ rfl rfl (by kernel_rfl) (by kernel_rfl)); (refine D_skip 32 rfl ?_ rfl rfl (by kernel_rfl) (by kernel_rfl)); (refine D_skip 33 rfl ?_ rfl rfl (by kernel_rfl) (by kernel_rfl)); (refine D_skip 34 rfl ?_ rfl rfl (by kernel_rfl) (by kernel_rfl)); (refine D_skip 35 rfl ?_ rfl rfl (by kernel_rfl) (by kernel_rfl)); (refine D_skip 36 rfl ?_ rfl rfl (by kernel_rfl) (by kernel_rfl)); (refine D_skip 37 rfl ?_ rfl rfl (by kernel_rfl) (by kernel_rfl)); (refine dt 38 rfl (pev_ok rfl) ?_); refine D_done ?_ (by kernel_rfl)); refine qT ?_; refine qs ?_; refine qp ?_; refine qz ?_)
        exact hB _ _ _ _ _ rfl rfl fun w' hS => ⟨(), rfl, trivial, hS.sublist (List.nil_sublist _)⟩
    have hjn : j = Q.length := by omega
    subst hjn
    rw [decide_eq_true (eq_uptoE (by simpa using hlm) (fun i hi => hok i (by simpa using hi)))] at hB
    focus (refine qs ?_; refine qf ?_; refine qz ?_; refine qq ?_; refine qF ?_; refine S_exit rfl rfl ?_; refine qs ?_; refine qp ?_; refine qz ?_)
    exact hB _ _ _ _ _ rfl rfl fun w' hS => ⟨(), rfl, trivial, hS.sublist (List.nil_sublist _)⟩
  · rw [decide_eq_false (fun e => hlm (by simpa using congrArg List.length e))] at hB
    focus (refine qs ?_; refine qp ?_; refine qz ?_; refine qq ?_; refine qs ?_; (iterate 4 refine qp ?_); refine qd ?_; refine qz ?_; refine qT ?_; refine qs ?_; refine qp ?_; refine qz ?_)
    exact hB _ _ _ _ _ rfl rfl fun w' hS => ⟨(), rfl, trivial, hS.sublist (List.nil_sublist _)⟩
set_option maxRecDepth 100000 in
set_option maxHeartbeats 4000000 in
theorem sameD_any (w : World) (a b : At) (A A2 : Option Addr) (c c2' : Nat) (Q M : List Em) (h : Rd w All 3 A Q.length (cellsL emc Q)) (h2 : Rd w All 3 A2 M.length (cellsL emc M)) (hq : ∀ m ∈ Q, BsM w m) (hm : ∀ m ∈ M, BsM w m) (hn : Q.length ≤ 100000) (hn2 : M.length ≤ 100000) :
    Gives Tryz.prog 69 [.agg (lgc a A Q.length c).toArray, .agg (lgc b A2 M.length c2').toArray] [] w (X := Unit) (fun _ => .bool (decide (a = b) && decide (Q.map emv = M.map emv))) (fun _ => True) (fun _ => []) := by
  refine gives_S Tryz.func69 rfl Tryz.ntmps69 Tryz.results69 (by simp) (St.enter w) (fun B hB => ?_)
  obtain ⟨i, t⟩ := a
  obtain ⟨i2, t2⟩ := b
  obtain ⟨r, hr⟩ : ∃ r, decide ((i, t) = (i2, t2)) = r := ⟨_, rfl⟩
  obtain ⟨q, hq2⟩ : ∃ r, decide (Q.map emv = M.map emv) = r := ⟨_, rfl⟩
  rw [hr, hq2] at hB
  cases r
  · rw [Bool.false_and] at hB
    focus (refine qs ?_; (refine qe (E_boxa (cs := lgc (i, t) A Q.length c) rfl) ?_; rintro _ _ ⟨b2, rfl, rfl⟩); (refine qe (E_boxa (cs := lgc (i2, t2) A2 M.length c2') rfl) ?_; rintro _ _ ⟨b3, rfl, rfl⟩); refine qp ?_; refine qn ?_; refine qp ?_; refine qt (T_loads (ds := atc (i, t)) rfl rfl rfl rfl rfl) ?_; refine qp ?_; refine qt (T_loads (ds := atc (i2, t2)) rfl rfl rfl rfl rfl) ?_; refine qt (T_eqAt (a := (i, t)) (b := (i2, t2)) rfl rfl hr) ?_; refine qp ?_; (iterate 5 refine qk ?_); refine qp ?_; refine qp ?_; refine qz ?_)
    exact hB _ _ _ _ _ rfl rfl fun w' hS => ⟨(), rfl, trivial, hS.sublist (List.nil_sublist _)⟩
  · rw [Bool.true_and] at hB
    focus (refine qs ?_; (refine qe (E_boxa (cs := lgc (i, t) A Q.length c) rfl) ?_; rintro _ _ ⟨b2, rfl, rfl⟩); (refine qe (E_boxa (cs := lgc (i2, t2) A2 M.length c2') rfl) ?_; rintro _ _ ⟨b3, rfl, rfl⟩); refine qp ?_; refine qn ?_; refine qp ?_; refine qt (T_loads (ds := atc (i, t)) rfl rfl rfl rfl rfl) ?_; refine qp ?_; refine qt (T_loads (ds := atc (i2, t2)) rfl rfl rfl rfl rfl) ?_; refine qt (T_eqAt (a := (i, t)) (b := (i2, t2)) rfl rfl hr) ?_; refine qp ?_; (iterate 2 refine qp ?_; refine qt (T_load rfl rfl rfl rfl) ?_); ((refine qe (E_hv0 (f := 141) ⟨_, Tryz.func141, rfl, by kernel_rfl⟩ (fun w hS => sameE_any w A A2 c c2' Q M ((Srd.old h (fun k _ => noOwns k)).rd w hS) ((Srd.old h2 (fun k _ => noOwns k)).rd w hS) (fun m hm2 => (Src.old (hq m hm2) (fun k _ => noOwns k)).bs w hS) (fun m hm2 => (Src.old (hm m hm2) (fun k _ => noOwns k)).bs w hS) hn hn2) rfl rfl (fun _ => rfl)) ?_; rintro _ _ ⟨_, rfl, _, rfl⟩); rw [hq2]); refine qp ?_; refine qp ?_; refine qz ?_)
    exact hB _ _ _ _ _ rfl rfl fun w' hS => ⟨(), rfl, trivial, hS.sublist (List.nil_sublist _)⟩
end Go.Proofs.YtdeffdldifepkaaGreat
namespace Go.Proofs.YtdeffdldifepkaaGreat
open Go.RowKit Go.ChangeShapes Go.WideShapes Go.ChangeAt
open Asn (pt row rb)
set_option linter.unusedVariables false
set_option linter.unusedSimpArgs false
--@use N

theorem T_bnq {P : Program} [HasTab P] {n : Nat} {w0 : World} {M : Nat → Prop} {T : Slots} {H : List Asn} {dd : Option Tmp} {tt : TypeId} {pos : String} {af : Array Edge} {g : Option (Nat × Bool)} {x y : Operand} {t u : TypeId} {b c r : Bool} {i : Ti} (hx : oget T x = some (.bool b)) (hy : oget T y = some (.bool c)) (ht : ty P t = some i) (hi : i.desc = .bool) (hr : (b != c) = r) :
    Tk P n w0 M T H ⟨dd, .binOp .neq t x y u, tt, pos, af, g⟩ (.bool r) := hr ▸ T_bne hx hy ht hi
/-- entries that say L, their bytes within their rooms -/
def Sh (L : List En) : Type := {P : List Em // P.map emv = L ∧ ∀ m ∈ P, m.2.2.2.2.length ≤ m.2.2.2.1}
theorem rightD_k (w : World) (a : At) (A : Option Addr) (c k : Nat) (Q : List Em) (l : List En) (hk : Q.length = k) (hl : Q.map emv = l) (h : Rd w All 3 A k (cellsL emc Q)) (hn : k ≤ 100000) (r : Bool) (hr : rightB a l = r) :
    Gives Tryz.prog 64 [.agg (lgc a A k c).toArray] [] w (X := Unit) (fun _ => .bool r) (fun _ => True) (fun _ => []) := by
  subst hk
  subst hl
  subst hr
  exact rightD_any w a A c Q h hn
end Go.Proofs.YtdeffdldifepkaaGreat
namespace Go.Proofs.YtdeffdldifepkaaGreat
open Go.RowKit
open Asn (pt row rb)
set_option linter.unusedVariables false
set_option linter.unusedSimpArgs false
--@use N

set_option maxRecDepth 100000 in
set_option maxHeartbeats 4000000 in
theorem entD_any (w : World) (A : Option Addr) (c k : Nat) (Q : List Em) (l : List En) (hk : Q.length = k) (hl : Q.map emv = l) (h : Rd w All 3 A k (cellsL emc Q)) (hd : RDt w All (Q.map emd)) (hn : k ≤ 1000) (hkk : ∀ m ∈ Q, m.2.2.2.2.length ≤ 100000) :
    Gives Tryz.prog 23 [.slice A k c] [] w (X := (Option Addr × Nat) × Sh l) (fun x => .slice x.1.1 k x.1.2) (fun x => k ≤ x.1.2) (fun x => [row 59 3 x.1.1 k x.1.2 (cellsL emc x.2.1), dtB 5 (x.2.1.map emd)]) := by
  refine gives_S Tryz.func23 rfl Tryz.ntmps23 Tryz.results23 (by simp) (St.enter w) (fun B hB => ?_)
  have hne : 0 < k → A ≠ none := fun h0 => by obtain ⟨ad, rfl, _⟩ := h.2 (by omega); simp
  focus (refine qs ?_; refine qp ?_; refine qn ?_; refine qp ?_; refine qz ?_; refine qq ?_; refine qs ?_; (iterate 3 refine qp ?_); refine qz ?_; refine qb ?_)
  refine S_loop (X := Nat × (Option Addr × Nat) × List Em) (fun x => [(3, .slice x.2.1.1 x.1 x.2.1.2), (6, .slice A k c), (7, .int .i64 (k : Int)), (8, .int .i64 (x.1 : Int))]) (fun x => [row 59 3 x.2.1.1 x.1 x.2.1.2 (cellsL emc x.2.2), dtB 5 (x.2.2.map emd)]) (fun x => x.1 ≤ k ∧ x.2.2.map emv = (Q.take x.1).map emv) (fun x => k - x.1) rfl (0, (none, 0), []) ⟨Nat.zero_le _, rfl⟩ (Sub.cons rfl (Sub.cons rfl (Sub.cons rfl (Sub.cons rfl Sub.nil)))) (fun w hS => (dtB_nil (e := 5) (hS.sublist (List.nil_sublist _))).nilrow 59 3) ?_
  rintro ⟨j, ⟨A5, c5⟩, P⟩ ⟨hj, hP⟩ J hJ
  dsimp only at hj hP ⊢
  rcases Nat.lt_or_ge j k with hjl | hjl
  · have hne := hne (by omega)
    have hat := cellsL_at (f := emc) emc_len Q default j (by omega)
    obtain ⟨m, hm⟩ : ∃ m, Q.getD j default = m := ⟨_, rfl⟩
    have hmem : m ∈ Q := by rw [← hm]; simp [List.getD, show j < Q.length by omega]
    rw [hm] at hat
    have hnx := emv_take Q j (by omega) hm
    have hkm := hkk m hmem
    have hd1 := hd (emd m) (List.mem_map.2 ⟨m, hmem, rfl⟩)
    obtain ⟨t, kd, D, cd, bs⟩ := m
    obtain ⟨q, hql⟩ : ∃ q, bs.length = q := ⟨_, rfl⟩
    have hkm : bs.length ≤ 100000 := hkm
    have hd1 : Rd w All 1 D bs.length (bs.map bv) := hd1
    have hat : ∀ e v, ([Value.int .u64 (t : Int), .int .i64 kd, .slice D bs.length cd] : List Value)[e]? = some v → (cellsL emc Q)[j * 3 + e]? = some v := hat
    rw [hql] at hkm hd1 hat
    focus (refine qs ?_; refine qd ?_; refine qz ?_; refine qq ?_; refine qT ?_; refine qx ?_; refine qq ?_; refine qb ?_; refine qs ?_; refine qt (T_ixM (sz := 3) rfl rfl rfl rfl rfl rfl hne hjl) ?_; refine qt (T_lda (ds := [.int .u64 (t : Int), .int .i64 kd, .slice D q cd]) rfl rfl rfl (Srd.old h (fun k _ => noOwns k)) rfl (by omega) hat) ?_; (refine qe (E_alloca rfl em_zero) ?_; rintro _ _ ⟨b7, rfl, rfl⟩); (refine qw (E_storew (cs := emc (0, 0, none, 0, [])) (ds := [.int .u64 (t : Int), .int .i64 kd, .slice D q cd]) rfl rfl rfl rfl (by simp [Value.oneCell']) rfl) ?_; rintro _ _ rfl); refine qn ?_; (refine qe (E_lit1 (m := 0) (vs := []) rfl rfl rfl rfl rfl rfl rfl (by simp) (by decide)) ?_; rintro _ _ ⟨bl, rfl, rfl⟩); refine qp ?_; refine qt (T_load rfl rfl rfl rfl) ?_; (refine qe (E_apple (sz := 1) (news := bs.map bv) rfl rfl rfl rfl rfl rfl rfl (by decide) .here (Srd.old hd1 (fun k _ => noOwns k)) (bv_ones _) (by show q * 1 ≤ _; omega) (by unfold maxLen; omega)) ?_; rintro _ _ ⟨A', c', rfl, rfl⟩); refine qp ?_; (refine qw (E_store1 rfl rfl rfl rfl rfl rfl (by show _ < 3; omega)) ?_; rintro _ _ rfl); refine qz ?_; refine qr ?_; refine qp ?_; refine qt (T_loads (ds := [.int .u64 (t : Int), .int .i64 kd, .slice A' q c']) rfl rfl rfl rfl rfl) ?_; (refine qe (E_litS (vs := [.agg [.int .u64 (t : Int), .int .i64 kd, .slice A' q c'].toArray]) (size := 3) (ds := [.int .u64 (t : Int), .int .i64 kd, .slice A' q c']) rfl rfl rfl rfl rfl rfl (by simp [vcells]) rfl (by omega)) ?_; rintro _ _ ⟨vb, rfl, rfl⟩); (refine qe (E_appS (sz := 3) (m := j) (c := c5) (A := A5) rfl rfl rfl rfl rfl rfl rfl (by decide) (Srd.pt (n := 1) (g := vb) (ds := [.int .u64 (t : Int), .int .i64 kd, .slice A' q c']) rfl (fun j u hj => by rw [Nat.zero_add]; exact hj)) (by simp [Value.oneCell']) (by show (j + 1) * 40 ≤ _; omega) (by unfold maxLen; omega)) ?_; rintro _ _ ⟨A7, c7, rfl, rfl⟩); refine qp ?_; refine qz ?_; refine RS_blk ?_; refine qr ?_; refine qt (T_addN rfl rfl (by unfold fits; omega)) ?_; refine qp ?_; refine qz ?_)
    refine hJ (j + 1, (A7, c7), P ++ [(t, kd, A', c', bs)]) _ _ ⟨by show j + 1 ≤ _; omega, by dsimp only; rw [hnx, List.map_append, hP]; rfl⟩ (Sub.cons rfl (Sub.cons rfl (Sub.cons rfl (Sub.cons rfl Sub.nil)))) (fun w' hS => ?_) (by show k - (j + 1) < _; omega)
    dsimp only
    have e1 : emc (t, kd, A', c', bs) = [.int .u64 (t : Int), .int .i64 kd, .slice A' q c'] := by
      show [Value.int .u64 (t : Int), .int .i64 kd, .slice A' bs.length c'] = _
      rw [hql]
    have h1 := sub_st (H' := [row 5 1 A' q c' (bs.map bv), dtB 5 (P.map emd), row 59 3 A7 (j + 1) c7 (cellsL emc P ++ [.int .u64 (t : Int), .int .i64 kd, .slice A' q c'])]) w' hS
    have h2 : St w (owns []) [dtA 5 (A', c', bs), dtB 5 (P.map emd), row 59 3 A7 (j + 1) c7 (cellsL emc P ++ [.int .u64 (t : Int), .int .i64 kd, .slice A' q c'])] w' := by
      unfold dtA
      rw [hql]
      exact h1
    have h3 := dtB_put h2
    rw [cellsL_app, cellsL_one, e1, List.map_append]
    exact sub_st (H' := [row 59 3 A7 (j + 1) c7 (cellsL emc P ++ [.int .u64 (t : Int), .int .i64 kd, .slice A' q c']), dtB 5 (P.map emd ++ [(A', c', bs)])]) w' h3
  have hjq : j = k := by omega
  subst hjq
  rw [← hk, List.take_length, hl] at hP
  focus (refine qs ?_; refine qf ?_; refine qz ?_; refine qq ?_; refine qF ?_; refine S_exit rfl rfl ?_; refine qs ?_; refine qp ?_; refine qp ?_; refine qz ?_)
  refine hB _ _ _ _ _ rfl rfl fun w' hS => ?_
  have hS := sub_st (H' := [row 59 3 A5 j c5 (cellsL emc P), dtB 5 (P.map emd)]) w' hS
  exact ⟨((A5, c5), ⟨P, hP, fun m hm => dtB_caps (e := 5) (D := P.map emd) hS (by simp) (emd m) (List.mem_map.2 ⟨m, hm, rfl⟩)⟩), rfl, (row_facts (hS.at_ (A := row 59 3 A5 j c5 (cellsL emc P)) (by simp))).1, hS⟩
set_option maxRecDepth 100000 in
set_option maxHeartbeats 4000000 in
theorem copyD_any (w : World) (a : At) (A : Option Addr) (c k : Nat) (Q : List Em) (l : List En) (hk : Q.length = k) (hl : Q.map emv = l) (h : Rd w All 3 A k (cellsL emc Q)) (hd : RDt w All (Q.map emd)) (hn : k ≤ 1000) (hkk : ∀ m ∈ Q, m.2.2.2.2.length ≤ 100000) :
    Gives Tryz.prog 62 [.agg (lgc a A k c).toArray] [] w (X := (Option Addr × Nat) × Sh l) (fun x => .agg (lgc a x.1.1 k x.1.2).toArray) (fun x => k ≤ x.1.2) (fun x => [row 59 3 x.1.1 k x.1.2 (cellsL emc x.2.1), dtB 5 (x.2.1.map emd)]) := by
  refine gives_C Tryz.func62 rfl Tryz.ntmps62 Tryz.results62 (by simp) (St.enter w) (fun B hB => ?_)
  obtain ⟨i, t⟩ := a
  focus (refine qs ?_; (refine qe (E_boxa (cs := lgc (i, t) A k c) rfl) ?_; rintro _ _ ⟨b1, rfl, rfl⟩); (refine qe (E_alloca rfl lg_zero) ?_; rintro _ _ ⟨b2, rfl, rfl⟩); refine qz ?_; refine qq ?_)
  refine S_draw ([pt b1 39 (lgc (i, t) A k c)]) sub_st (by kernel_rfl) rfl (by kernel_rfl) (by kernel_rfl : _ = 7) ?_
  refine dt 0 rfl (pev_ok rfl) ?_
  refine dt 1 rfl (T_loads (ds := atc (i, t)) rfl rfl rfl rfl rfl) ?_
  refine dt 2 rfl (pev_ok rfl) ?_
  refine dt 3 rfl (T_load rfl rfl rfl rfl) ?_
  refine D_one 4 rfl (E_hvG (f := 23) ⟨_, Tryz.func23, rfl, by kernel_rfl⟩ (fun w hS => entD_any w A c k Q l hk hl ((Srd.old h (fun k _ => noOwns k)).rd w hS) ((SDt.old hd (fun k _ => noOwns k)).rd w hS) hn hkk) rfl rfl) ?_ rfl rfl (by kernel_rfl)
  rintro _ _ ⟨⟨⟨A5, c5⟩, P5⟩, rfl, hc5, rfl⟩; dsimp only [List.cons_append, List.nil_append]
  refine Nx_same sub_st ?_
  refine dt 5 rfl (T_build2 rfl rfl (lg_built2 (i, t) _ _ _)) ?_
  refine D_one 6 rfl (E_storew (cs := lgc (0, 0) none 0 0) (ds := lgc (i, t) A5 k c5) rfl rfl rfl rfl (lgc_one _ _ _ _) rfl) ?_ rfl rfl (by kernel_rfl)
  rintro _ _ rfl
  refine Nx_same sub_st ?_
  refine D_done ?_ (by kernel_rfl)
  skip
  skip
  refine hB _ _ _ _ _ rfl (.cell rfl rfl rfl inferInstance rfl .nil) fun w' hS => ⟨((A5, c5), P5), rfl, hc5, sub_st _ hS⟩
end Go.Proofs.YtdeffdldifepkaaGreat
namespace Go.Proofs.YtdeffdldifepkaaGreat
open Go.RowKit
open Asn (pt row rb)
set_option linter.unusedVariables false
set_option linter.unusedSimpArgs false
--@use N

theorem T_subE {P : Program} {n : Nat} {w0 : World} {M : Nat → Prop} {T : Slots} {H : List Asn} {dd : Option Tmp} {tt : TypeId} {pos : String} {af : Array Edge} {g : Option (Nat × Bool)} {x y : Operand} {t u : TypeId} {kk : IntKind} {i j : Int} {p q r : Nat} (h : p - q = r) (hx : oget T x = some (.int kk i)) (hy : oget T y = some (.int kk j)) [hi : NatOf i p] [hj : NatOf j q] (hq : q ≤ p) (hf : fits kk ((p - q : Nat) : Int)) : Tk P n w0 M T H ⟨dd, .binOp .sub t x y u, tt, pos, af, g⟩ (.int kk (r : Int)) := by
  have := T_subN (P := P) (n := n) (w0 := w0) (M := M) (H := H) (dd := dd) (tt := tt) (pos := pos) (af := af) (g := g) (t := t) (u := u) hx hy hq hf
  rwa [h] at this
end Go.Proofs.YtdeffdldifepkaaGreat
namespace Go.Proofs.YtdeffdldifepkaaGreat
open Go.RowKit Go.ChangeShapes Go.WideShapes Go.ChangeAt
open Asn (pt row rb)
set_option linter.unusedVariables false
set_option linter.unusedSimpArgs false
--@use N
end Go.Proofs.YtdeffdldifepkaaGreat
namespace Go.Proofs.YtdeffdldifepkaaGreat
open Go.RowKit
open Asn (pt row rb)
set_option linter.unusedVariables false
set_option linter.unusedSimpArgs false
--@use N

theorem right_k (w : World) (a : At) (A : Option Addr) (c k : Nat) (Q : List Em) (l : List En) (hk : Q.length = k) (hl : Q.map emv = l) (h : Rd w All 3 A k (cellsL emc Q)) (hn : k ≤ 100000) (r : Bool) (hr : rightB a l = r) :
    Gives Tryz.prog 121 [.agg (lgc a A k c).toArray] [] w (X := Unit) (fun _ => .bool r) (fun _ => True) (fun _ => []) := by
  subst hk
  subst hl
  subst hr
  exact right_any w a A c Q h hn
end Go.Proofs.YtdeffdldifepkaaGreat
namespace Go.Proofs.YtdeffdldifepkaaGreat
open Go.RowKit Go.ChangeShapes Go.WideShapes Go.ChangeAt
open Asn (pt row rb)
set_option linter.unusedVariables false
set_option linter.unusedSimpArgs false
--@use N

end Go.Proofs.YtdeffdldifepkaaGreat
namespace Go.Proofs.YtdeffdldifepkaaGreat
open Go.RowKit
open Asn (pt row rb)
set_option linter.unusedVariables false
set_option linter.unusedSimpArgs false
--@use N

/-- is the n-th entry an EntConf at or below an index? -/
def cfT (a : At) (l : List En) (idx n : Nat) : Bool := decide (0 < n) && decide (a.1 + n ≤ idx) && decide ((l.getD (n - 1) default).2.1 = 3)
/-- the last such one up to the m-th, or 0 -/
def cfN (a : At) (l : List En) (idx : Nat) : Nat → Nat
  | 0 => 0
  | m + 1 => if cfT a l idx (m + 1) = true then m + 1 else cfN a l idx m
def confR (a : At) (l : List En) (idx : Nat) : Nat × List UInt8 × Bool :=
  if rightB a l = true then (if cfN a l idx l.length = 0 then (0, [], false) else (a.1 + cfN a l idx l.length, (l.getD (cfN a l idx l.length - 1) default).2.2, true)) else (0, [], false)
theorem cfN_le (a : At) (l : List En) (idx : Nat) : ∀ m, cfN a l idx m ≤ m
  | 0 => Nat.le_refl _
  | m + 1 => by
    unfold cfN
    have := cfN_le a l idx m
    split <;> omega
theorem cfN_hit {a : At} {l : List En} {idx n : Nat} (h : cfT a l idx n = true) : ∀ m, n ≤ m → (∀ q, n < q → q ≤ m → cfT a l idx q = false) → cfN a l idx m = n
  | 0, h0, _ => by
    have : n = 0 := by omega
    subst this
    rfl
  | m + 1, h0, hno => by
    unfold cfN
    by_cases he : n = m + 1
    · rw [← he, h, if_pos rfl]
    · rw [hno (m + 1) (by omega) (Nat.le_refl _), if_neg Bool.false_ne_true]
      exact cfN_hit h m (by omega) fun q h1 h2 => hno q h1 (by omega)
theorem cfN_none {a : At} {l : List En} {idx : Nat} : ∀ m, (∀ q, 0 < q → q ≤ m → cfT a l idx q = false) → cfN a l idx m = 0
  | 0, _ => rfl
  | m + 1, hno => by
    unfold cfN
    rw [hno (m + 1) (by omega) (Nat.le_refl _), if_neg Bool.false_ne_true]
    exact cfN_none m fun q h1 h2 => hno q h1 (by omega)
set_option maxRecDepth 100000 in
set_option maxHeartbeats 4000000 in
theorem confP_any (w : World) (a : At) (A : Option Addr) (c k : Nat) (Q : List Em) (l : List En) (hk : Q.length = k) (hl : Q.map emv = l) (h : Rd w All 3 A k (cellsL emc Q)) (hd : RDt w All (Q.map emd)) (hn : k ≤ 1000) (hkk : ∀ m ∈ Q, m.2.2.2.2.length ≤ 100000) (idx : Nat) (ri : Nat) (rbs : List UInt8) (rq : Bool) (N : Nat) (hN : rbs.length = N) (hs : confR a l idx = (ri, rbs, rq)) :
    Gives Tryz.prog 49 [.agg (lgc a A k c).toArray, .int .u64 (idx : Int)] [] w (X := Option Addr × Nat) (fun x => .tuple #[.int .u64 (ri : Int), .slice x.1 N x.2, .bool rq]) (fun _ => True) (fun x => [row 5 1 x.1 N x.2 (rbs.map bv)]) := by
  refine gives_M Tryz.func49 rfl Tryz.ntmps49 Tryz.results49 (by simp) (St.enter w) (fun B hB0 hB => ?_)
  obtain ⟨i, t⟩ := a
  have hll : l.length = k := by rw [← hl, List.length_map, hk]
  obtain ⟨r0, hr0⟩ : ∃ q, rightB (i, t) l = q := ⟨_, rfl⟩
  cases r0
  · rw [confR, hr0, if_neg Bool.false_ne_true] at hs
    injection hs with e1 e2
    injection e2 with e2 e3
    subst e1 e2 e3 hN
    focus (refine qs ?_; (refine qe (E_boxa (cs := lgc (i, t) A k c) rfl) ?_; rintro _ _ ⟨b2, rfl, rfl⟩); (refine qe (E_box1 (v := .int .u64 (idx : Int)) rfl rfl) ?_; rintro _ _ ⟨b3, rfl, rfl⟩); (iterate 3 refine qp ?_); refine qz ?_; refine qq ?_; refine qs ?_; refine qt (T_loads (ds := lgc (i, t) A k c) rfl rfl rfl rfl rfl) ?_; ((refine qe (E_hv0 (f := 121) ⟨_, Tryz.func121, rfl, by kernel_rfl⟩ (fun w hS => right_k w (i, t) A c k Q l hk hl ((Srd.old h (fun k _ => noOwns k)).rd w hS) (by omega) _ hr0) rfl rfl (fun _ => rfl)) ?_; rintro _ _ ⟨_, rfl, _, rfl⟩)); refine qt (T_not rfl) ?_; refine qz ?_; refine qT ?_; refine qs ?_; (iterate 3 refine qp ?_); refine qz ?_)
    exact hB0 _ _ _ _ _ rfl (.tmp rfl (.tmp rfl (.tmp rfl .nil))) fun w' hS => ⟨(none, 0), rfl, trivial, (hS.sublist (List.nil_sublist _)).nilrow _ _⟩
  have hff := right_fits hr0
  rw [hll] at hff
  have hff : k ≤ 16 ∧ i + k ≤ 18446744073709551614 := hff
  have hfit : (i, t).1 + k ≤ 18446744073709551615 := by show i + k ≤ _; omega
  rw [confR, hr0, if_pos rfl, hll] at hs
  focus (refine qs ?_; (refine qe (E_boxa (cs := lgc (i, t) A k c) rfl) ?_; rintro _ _ ⟨b2, rfl, rfl⟩); (refine qe (E_box1 (v := .int .u64 (idx : Int)) rfl rfl) ?_; rintro _ _ ⟨b3, rfl, rfl⟩); (iterate 3 refine qp ?_); refine qz ?_; refine qq ?_; refine qs ?_; refine qt (T_loads (ds := lgc (i, t) A k c) rfl rfl rfl rfl rfl) ?_; ((refine qe (E_hv0 (f := 121) ⟨_, Tryz.func121, rfl, by kernel_rfl⟩ (fun w hS => right_k w (i, t) A c k Q l hk hl ((Srd.old h (fun k _ => noOwns k)).rd w hS) (by omega) _ hr0) rfl rfl (fun _ => rfl)) ?_; rintro _ _ ⟨_, rfl, _, rfl⟩)); refine qt (T_not rfl) ?_; refine qz ?_; refine qF ?_; refine qx ?_; refine qs ?_; (refine qe (E_alloc1 (v := .int .i64 0) rfl rfl rfl) ?_; rintro _ _ ⟨b7, rfl, rfl⟩); (refine qe (E_alloc1 (v := .int .u64 0) rfl rfl rfl) ?_; rintro _ _ ⟨b8, rfl, rfl⟩); (iterate 2 (refine qw (E_store1 rfl rfl rfl rfl rfl rfl (by first | (simp; done) | (simp; omega) | decide)) ?_; rintro _ _ rfl)); refine qz ?_; refine qq ?_; refine qs ?_; refine qt (T_loads (ds := lgc (i, t) A k c) rfl rfl rfl rfl rfl) ?_; (refine qe (E_hv1 (f := 122) ⟨_, Tryz.func122, rfl, by kernel_rfl⟩ (fun w hS => places_any w (i, t) A k c) rfl rfl (fun _ => rfl)) ?_; rintro _ _ ⟨bI, rfl, _, rfl⟩); refine qz ?_; refine qb ?_)
  refine S_range (F := fun k => k < w.heap.size ∨ k = bI) (es := plcs (i, t) l) (ps := [16, 17]) (X := Int × Nat) (fun x => [pt b7 3 [.int .i64 x.1], pt b8 34 [.int .u64 (x.2 : Int)]]) (fun j x => x.1 = (cfN (i, t) l idx (j - 1) : Int) - 1 ∧ (0 < cfN (i, t) l idx (j - 1) → x.2 = i + cfN (i, t) l idx (j - 1))) (fun j x => False) (-1, 0) [pt bI 39 (lgc (i, t) A k c), pt b3 34 [.int .u64 (idx : Int)], pt b2 39 (lgc (i, t) A k c)] rfl rfl ⟨_, Tryz.func168, rfl, by kernel_rfl⟩ (by kernel_rfl) (fun e he => ?_) ⟨rfl, fun h0 => absurd h0 (Nat.lt_irrefl 0)⟩ (fun w' hS => ?_) (fun w' hS => ?_) (fun w' hS => reads_ok (b := bI) (Hk := [pt bI 39 (lgc (i, t) A k c), pt b3 34 [.int .u64 (idx : Int)], pt b2 39 (lgc (i, t) A k c)]) hS) (fun j x w' hx hj hS => ?_) (fun y D hy => ?_) (fun y D j hj hy => absurd hy id)
  · obtain ⟨j, _, rfl⟩ := List.mem_map.1 he
    rfl
  · simp only [Nat.add_zero, List.set_cons_zero] at hS
    exact sub_st (H' := [pt b7 3 [.int .i64 (-1)], pt b8 34 [.int .u64 0], pt bI 39 (lgc (i, t) A k c), pt b3 34 [.int .u64 (idx : Int)], pt b2 39 (lgc (i, t) A k c)]) w' hS
  · have h1 : Rd w All 3 A Q.length (cellsL emc Q) := by rw [hk]; exact h
    have hb : Rd w' (fun k => k < w.heap.size ∨ k = bI) 1 (some ⟨bI, 0, none⟩) 3 (lgc (i, t) A k c) := rd_blk (b := bI) hS rfl (.inr rfl)
    rw [← hk] at hb
    rw [← hl]
    exact places_iter w' _ bI (i, t) A c Q hb (rd_old h1 (by decide) (fun k => noOwns k) hS (fun k hk => .inl hk)) (by omega) (by rw [hk]; exact hfit)
  · rw [plcs_len, hll] at hj
    obtain ⟨x1, x2⟩ := x
    obtain ⟨hx1, hx2⟩ := hx
    dsimp only at hx1 hx2
    rw [plcs_at _ _ _ (by omega)]
    have hpf := placeN_fst (i, t) l j
    obtain ⟨⟨pi, pu⟩, hp⟩ : ∃ p, placeN (i, t) l j = p := ⟨_, rfl⟩
    rw [hp] at hpf ⊢
    have hpf : pi = i + j := hpf
    subst hpf
    intro l2 rA rB B0 B1 J hfull hbeg hend hret
    have hC3 := rd_kept (b := b3) hfull rfl
    have hC2 := rd_kept (b := b2) hfull rfl
    have hC4 := rd_rest h (by decide) (fun k => noOwns k) hfull
    focus (refine qs ?_; refine qp ?_; refine qz ?_; refine qr ?_; (refine qe (E_alloca rfl at_zero) ?_; rintro _ _ ⟨b10, rfl, rfl⟩); (refine qw (E_storew (cs := atc (0, 0)) (ds := atc (i + j, pu)) rfl rfl rfl rfl (atc_one _) rfl) ?_; rintro _ _ rfl); refine qz ?_)
    refine hbeg _ [pt b10 36 (atc (i + j, pu)), pt b7 3 [.int .i64 x1], pt b8 34 [.int .u64 (x2 : Int)]] _ ?_ sub_st
    by_cases hj0 : j = 0
    · subst hj0
      focus (refine qb ?_; refine qs ?_; refine qp ?_; refine qf ?_; refine qp ?_; (iterate 4 refine qk ?_); refine qp ?_; refine qp ?_; (iterate 8 refine qk ?_); refine qp ?_; refine qz ?_; refine qF ?_; refine qx ?_; refine RS_blk ?_)
      exact hend (x1, x2) _ _ ⟨hx1, hx2⟩ sub_st
    have hjj : j + 1 - 1 = (j - 1) + 1 := by omega
    by_cases hji : i + j ≤ idx
    · have hne : A ≠ none := by obtain ⟨ad, rfl, _⟩ := h.2 (by omega); simp
      have hat := cellsL_at (f := emc) emc_len Q default (j - 1) (by omega)
      have hlk : j - 1 < k := by omega
      obtain ⟨m, hm⟩ : ∃ m, Q.getD (j - 1) default = m := ⟨_, rfl⟩
      rw [hm] at hat
      have hat1 : (cellsL emc Q)[(j - 1) * 3 + 1]? = some (.int .i64 m.2.1) := hat 1 _ rfl
      have hlm : l.getD (j - 1) default = emv m := by rw [← hl, ← hm]; simp [List.getD, show j - 1 < Q.length by omega]
      have hT : cfT (i, t) l idx j = decide (m.2.1 = 3) := by
        unfold cfT
        rw [hlm, decide_eq_true (show 0 < j by omega), decide_eq_true (show (i, t).1 + j ≤ idx from hji)]
        rfl
      obtain ⟨kd, hkd⟩ : ∃ z, m.2.1 = z := ⟨_, rfl⟩
      rw [hkd] at hat1 hT
      by_cases hk3 : kd = 3
      · rw [decide_eq_true hk3] at hT
        focus (refine qb ?_; refine qs ?_; refine qp ?_; refine qd ?_; refine qp ?_; refine qp ?_; refine qt (T_load rfl rfl rfl rfl) ?_; refine qt (T_loadg rfl rfl rfl hC3 (fun k hk => hk) rfl) ?_; refine qd ?_; (iterate 3 refine qp ?_); refine qt (T_loadg (v := .slice A k c) rfl rfl rfl hC2 (fun k hk => hk) rfl) ?_; refine qp ?_; refine qt (T_subN rfl rfl (by omega) (by unfold fits; omega)) ?_; refine qt (T_ixM (sz := 3) (q := j - 1) rfl rfl rfl rfl rfl rfl hne hlk) ?_; refine qt (T_fap rfl rfl rfl rfl rfl hne) ?_; refine qt (T_ldr rfl rfl rfl (Srd.old hC4 (fun k hk => hk)) (by omega) hat1) ?_; refine qd ?_; refine qp ?_; refine qz ?_; refine qT ?_)
        refine S_drawR ([pt b10 36 (atc (i + j, pu))]) sub_st (by kernel_rfl) rfl (by kernel_rfl) (by kernel_rfl) (by kernel_rfl : _ = 6) ?_
        refine dt 0 rfl (pev_ok rfl) ?_
        (refine dt 1 rfl (T_subN rfl rfl (by omega) (by unfold fits; omega)) ?_)
        refine dt 2 rfl (pev_ok rfl) ?_
        refine dt 3 rfl (T_load rfl rfl rfl rfl) ?_
        refine D_one 4 rfl (E_store1 rfl rfl rfl rfl rfl rfl (by first | (simp; done) | (simp; omega) | decide)) ?_ rfl rfl (by kernel_rfl)
        rintro _ _ rfl
        refine Nx_same sub_st ?_
        refine D_one 5 rfl (E_store1 rfl rfl rfl rfl rfl rfl (by first | (simp; done) | (simp; omega) | decide)) ?_ rfl rfl (by kernel_rfl)
        rintro _ _ rfl
        refine Nx_same sub_st ?_
        refine D_done ?_ (by kernel_rfl)
        skip
        focus (refine RS_blk ?_)
        have e1 : cfN (i, t) l idx (j + 1 - 1) = j := by rw [hjj, cfN, show j - 1 + 1 = j by omega, hT, if_pos rfl]
        refine hend (((j - 1 : Nat) : Int), i + j) _ _ ⟨by rw [e1]; dsimp only; omega, fun _ => by rw [e1]⟩ fun w' hS => ?_
        simp only [Nat.add_zero, List.set_cons_zero] at hS
        exact sub_st w' hS
      · rw [decide_eq_false hk3] at hT
        focus (refine qb ?_; refine qs ?_; refine qp ?_; refine qd ?_; refine qp ?_; refine qp ?_; refine qt (T_load rfl rfl rfl rfl) ?_; refine qt (T_loadg rfl rfl rfl hC3 (fun k hk => hk) rfl) ?_; refine qd ?_; (iterate 3 refine qp ?_); refine qt (T_loadg (v := .slice A k c) rfl rfl rfl hC2 (fun k hk => hk) rfl) ?_; refine qp ?_; refine qt (T_subN rfl rfl (by omega) (by unfold fits; omega)) ?_; refine qt (T_ixM (sz := 3) (q := j - 1) rfl rfl rfl rfl rfl rfl hne hlk) ?_; refine qt (T_fap rfl rfl rfl rfl rfl hne) ?_; refine qt (T_ldr rfl rfl rfl (Srd.old hC4 (fun k hk => hk)) (by omega) hat1) ?_; refine qf ?_; refine qp ?_; refine qz ?_; refine qF ?_; refine qx ?_; refine RS_blk ?_)
        have e1 : cfN (i, t) l idx (j + 1 - 1) = cfN (i, t) l idx (j - 1) := by rw [hjj, cfN, show j - 1 + 1 = j by omega, hT, if_neg Bool.false_ne_true]
        exact hend (x1, x2) _ _ ⟨by rw [e1]; exact hx1, fun h0 => by rw [e1] at h0 ⊢; exact hx2 h0⟩ sub_st
    · have hT : cfT (i, t) l idx j = false := by
        unfold cfT
        rw [decide_eq_false (show ¬ (i, t).1 + j ≤ idx from hji), Bool.and_false, Bool.false_and]
      focus (refine qb ?_; refine qs ?_; refine qp ?_; refine qd ?_; refine qp ?_; refine qp ?_; refine qt (T_load rfl rfl rfl rfl) ?_; refine qt (T_loadg rfl rfl rfl hC3 (fun k hk => hk) rfl) ?_; refine qf ?_; refine qp ?_; refine qp ?_; (iterate 8 refine qk ?_); refine qp ?_; refine qz ?_; refine qF ?_; refine qx ?_; refine RS_blk ?_)
      have e1 : cfN (i, t) l idx (j + 1 - 1) = cfN (i, t) l idx (j - 1) := by rw [hjj, cfN, show j - 1 + 1 = j by omega, hT, if_neg Bool.false_ne_true]
      exact hend (x1, x2) _ _ ⟨by rw [e1]; exact hx1, fun h0 => by rw [e1] at h0 ⊢; exact hx2 h0⟩ sub_st
  · rw [plcs_len, hll, Nat.add_sub_cancel] at hy
    obtain ⟨x1, x2⟩ := y
    obtain ⟨hx1, hx2⟩ := hy
    dsimp only at hx1 hx2
    simp only [List.cons_append, List.nil_append]
    have hle := cfN_le (i, t) l idx k
    obtain ⟨n, hn2⟩ : ∃ n, cfN (i, t) l idx k = n := ⟨_, rfl⟩
    rw [hn2] at hs hx1 hx2 hle
    by_cases hn0 : n = 0
    · rw [if_pos hn0] at hs
      injection hs with e1 e2
      injection e2 with e2 e3
      subst e1 e2 e3 hN
      focus (refine RS_blk ?_; refine qq ?_; refine qs ?_; refine qt (T_load rfl rfl rfl rfl) ?_; refine qd ?_; refine qz ?_; refine qT ?_; refine qs ?_; (iterate 3 refine qp ?_); refine qz ?_)
      refine hB _ _ _ _ _ _ _ rfl inferInstance (.tmp rfl (.tmp rfl (.tmp rfl .nil))) fun w' hS => ⟨(none, 0), rfl, trivial, (hS.sublist (List.nil_sublist _)).nilrow _ _⟩
    rw [if_neg hn0] at hs
    injection hs with e1 e2
    injection e2 with e2 e3
    subst e1 e2 e3
    obtain ⟨q, hq⟩ : ∃ q, n - 1 = q := ⟨_, rfl⟩
    have hx2 := hx2 (by omega)
    obtain rfl : x1 = (q : Int) := by omega
    subst hx2
    rw [hq] at hN
    have hqk : q < k := by omega
    have hne : A ≠ none := by obtain ⟨ad, rfl, _⟩ := h.2 (by omega); simp
    have hat := cellsL_at (f := emc) emc_len Q default q (by omega)
    obtain ⟨m, hm⟩ : ∃ m, Q.getD q default = m := ⟨_, rfl⟩
    have hmem : m ∈ Q := by rw [← hm]; simp [List.getD, show q < Q.length by omega]
    rw [hm] at hat
    have hat2 : (cellsL emc Q)[q * 3 + 2]? = some (.slice m.2.2.1 m.2.2.2.2.length m.2.2.2.1) := hat 2 _ rfl
    have hlm : l.getD q default = emv m := by rw [← hl, ← hm]; simp [List.getD, show q < Q.length by omega]
    have hbk := hkk m hmem
    have hd1 : Rd w All 1 m.2.2.1 m.2.2.2.2.length (m.2.2.2.2.map bv) := hd (emd m) (List.mem_map.2 ⟨m, hmem, rfl⟩)
    rw [hlm] at hN
    obtain rfl : N = m.2.2.2.2.length := hN.symm
    focus (refine RS_blk ?_; refine qq ?_; refine qs ?_; refine qt (T_load rfl rfl rfl rfl) ?_; refine qf ?_; refine qz ?_; refine qF ?_; refine qx ?_; refine qq ?_)
    refine S_draw ([pt b8 34 [.int .u64 ((i + n : Nat) : Int)], pt b2 39 (lgc (i, t) A k c), pt b7 3 [.int .i64 (q : Int)]]) sub_st (by kernel_rfl) rfl (by kernel_rfl) (by kernel_rfl : _ = 11) ?_
    refine dt 0 rfl (T_load rfl rfl rfl rfl) ?_
    refine dt 1 rfl (pev_ok rfl) ?_
    refine dt 2 rfl (T_load rfl rfl rfl rfl) ?_
    refine dt 3 rfl (T_load rfl rfl rfl rfl) ?_
    refine dt 4 rfl (T_ixM (sz := 3) (q := q) rfl rfl rfl rfl rfl rfl hne hqk) ?_
    refine dt 5 rfl (T_fap rfl rfl rfl rfl rfl hne) ?_
    refine dt 6 rfl (T_ldr rfl rfl rfl (Srd.old h (fun k _ => noOwns k)) (by omega) hat2) ?_
    refine D_one 7 rfl (E_hvG (f := 123) ⟨_, Tryz.func123, rfl, by kernel_rfl⟩ (fun w hS => bclone_any w m.2.2.1 m.2.2.2.2.length m.2.2.2.1 (m.2.2.2.2.map bv) ((Srd.old hd1 (fun k _ => noOwns k)).rd w hS) (bv_ones _) hbk) rfl rfl) ?_ rfl rfl (by kernel_rfl)
    rintro _ _ ⟨⟨A9, c9⟩, rfl, _, rfl⟩; dsimp only [List.cons_append, List.nil_append]
    refine Nx_same sub_st ?_
    refine dt 8 rfl (pev_ok rfl) ?_
    refine dt 9 rfl (pev_ok rfl) ?_
    refine dt 10 rfl (T_decT rfl (by omega)) ?_
    refine D_done ?_ (by kernel_rfl)
    skip
    skip
    refine hB _ _ _ _ _ _ _ rfl inferInstance (.tmp rfl (.tmp rfl (.tmp rfl .nil))) fun w' hS => ⟨(A9, c9), rfl, trivial, ?_⟩
    rw [hq, hlm]
    exact sub_st (H' := [row 5 1 A9 m.2.2.2.2.length c9 (m.2.2.2.2.map bv)]) w' hS
set_option maxRecDepth 100000 in
set_option maxHeartbeats 4000000 in
theorem confD_any (w : World) (a : At) (A : Option Addr) (c k : Nat) (Q : List Em) (l : List En) (hk : Q.length = k) (hl : Q.map emv = l) (h : Rd w All 3 A k (cellsL emc Q)) (hd : RDt w All (Q.map emd)) (hn : k ≤ 1000) (hkk : ∀ m ∈ Q, m.2.2.2.2.length ≤ 100000) (hr0 : rightB a l = true) (idx : Nat) (ri : Nat) (rbs : List UInt8) (rq : Bool) (N : Nat) (hN : rbs.length = N) (hs : confR a l idx = (ri, rbs, rq)) :
    Gives Tryz.prog 102 [.agg (lgc a A k c).toArray, .int .u64 (idx : Int)] [] w (X := Option Addr × Nat) (fun x => .tuple #[.int .u64 (ri : Int), .slice x.1 N x.2, .bool rq]) (fun _ => True) (fun x => [row 5 1 x.1 N x.2 (rbs.map bv)]) := by
  refine gives_S Tryz.func102 rfl Tryz.ntmps102 Tryz.results102 (by simp) (St.enter w) (fun B hB => ?_)
  obtain ⟨i, t⟩ := a
  have hll : l.length = k := by rw [← hl, List.length_map, hk]
  have hff := right_fits hr0
  rw [hll] at hff
  have hff : k ≤ 16 ∧ i + k ≤ 18446744073709551614 := hff
  have hfit : (i, t).1 + k ≤ 18446744073709551615 := by show i + k ≤ _; omega
  rw [confR, hr0, if_pos rfl, hll] at hs
  focus (refine qs ?_; (refine qe (E_boxa (cs := lgc (i, t) A k c) rfl) ?_; rintro _ _ ⟨b2, rfl, rfl⟩); (iterate 3 refine qp ?_); refine qz ?_; refine qq ?_; refine qs ?_; refine qp ?_; refine qt (T_load rfl rfl rfl rfl) ?_; refine qp ?_; refine qp ?_; refine qz ?_; refine qb ?_)
  refine S_loop (X := Nat) (fun n => [(1, .int .u64 (idx : Int)), (2, .pointer (some ⟨b2, 0, none⟩)), (7, .int .i64 (n : Int))]) (fun _ => [pt b2 39 (lgc (i, t) A k c)]) (fun n => n ≤ k ∧ ∀ q, n < q → q ≤ k → cfT (i, t) l idx q = false) (fun n => n) rfl k ⟨Nat.le_refl _, fun q h1 h2 => by omega⟩ (Sub.cons rfl (Sub.cons rfl (Sub.cons rfl Sub.nil))) sub_st ?_
  rintro n ⟨hnk, hno⟩ J hJ
  by_cases hn0 : n = 0
  · rw [cfN_none k fun q h1 h2 => hno q (by omega) h2, if_pos rfl] at hs
    injection hs with e1 e2
    injection e2 with e2 e3
    subst e1 e2 e3 hN
    focus (refine qq ?_; refine qs ?_; refine qp ?_; refine qf ?_; refine qz ?_; refine qF ?_; refine S_exit rfl rfl ?_; refine qs ?_; (iterate 3 refine qp ?_); refine qz ?_)
    refine hB _ _ _ _ _ rfl rfl fun w' hS => ⟨(none, 0), rfl, trivial, (hS.sublist (List.nil_sublist _)).nilrow _ _⟩
  have hpf := placeN_fst (i, t) l n
  obtain ⟨⟨pi, pu⟩, hp⟩ : ∃ p, placeN (i, t) l n = p := ⟨_, rfl⟩
  rw [hp] at hpf
  have hpf : pi = i + n := hpf
  subst hpf
  obtain ⟨q, hq⟩ : ∃ q, n - 1 = q := ⟨_, rfl⟩
  have hqk : q < k := by omega
  have hne : A ≠ none := by obtain ⟨ad, rfl, _⟩ := h.2 (by omega); simp
  have hat := cellsL_at (f := emc) emc_len Q default q (by omega)
  obtain ⟨m, hm⟩ : ∃ m, Q.getD q default = m := ⟨_, rfl⟩
  have hmem : m ∈ Q := by rw [← hm]; simp [List.getD, show q < Q.length by omega]
  rw [hm] at hat
  have hlm : l.getD q default = emv m := by rw [← hl, ← hm]; simp [List.getD, show q < Q.length by omega]
  have hbk := hkk m hmem
  have hd1 := hd (emd m) (List.mem_map.2 ⟨m, hmem, rfl⟩)
  have hT : cfT (i, t) l idx n = (decide (i + n ≤ idx) && decide (m.2.1 = 3)) := by
    unfold cfT
    rw [hq, hlm, decide_eq_true (show 0 < n by omega)]
    rfl
  obtain ⟨tm, kd, D, cd, bs⟩ := m
  have hd1 : Rd w All 1 D bs.length (bs.map bv) := hd1
  have hT : cfT (i, t) l idx n = (decide (i + n ≤ idx) && decide (kd = 3)) := hT
  have hbk : bs.length ≤ 100000 := hbk
  have hat1 : (cellsL emc Q)[q * 3 + 1]? = some (.int .i64 kd) := hat 1 _ rfl
  have hat2 : (cellsL emc Q)[q * 3 + 2]? = some (.slice D bs.length cd) := hat 2 _ rfl
  by_cases hi : i + n ≤ idx
  · by_cases hk3 : kd = 3
    · rw [decide_eq_true hi, decide_eq_true hk3] at hT
      rw [cfN_hit hT k hnk hno, if_neg hn0, hq, hlm] at hs
      injection hs with e1 e2
      injection e2 with e2 e3
      subst e1 e2 e3
      obtain rfl : N = bs.length := hN.symm
      focus (refine qq ?_; refine qs ?_; refine qp ?_; refine qd ?_; refine qz ?_; refine qT ?_; refine qx ?_; refine qq ?_; refine qb ?_; refine qs ?_; refine qt (T_loads (ds := lgc (i, t) A k c) rfl rfl rfl rfl rfl) ?_; refine qp ?_; ((refine qe (E_hv0 (f := 140) ⟨_, Tryz.func140, rfl, by kernel_rfl⟩ (fun w hS => placeD_any w (i, t) A c k Q l hk hl ((Srd.old h (fun k _ => noOwns k)).rd w hS) (by omega) hfit n hnk _ hp) rfl rfl (fun _ => rfl)) ?_; rintro _ _ ⟨_, rfl, _, rfl⟩)); (refine qe (E_alloca rfl at_zero) ?_; rintro _ _ ⟨b8, rfl, rfl⟩); (refine qw (E_storew (cs := atc (0, 0)) (ds := atc (i + n, pu)) rfl rfl rfl rfl (atc_one _) rfl) ?_; rintro _ _ rfl); refine qn ?_; refine qp ?_; refine qt (T_load rfl rfl rfl rfl) ?_; refine qp ?_; refine qd ?_; refine qd ?_; refine qp ?_; refine qt (T_load rfl rfl rfl rfl) ?_; refine qp ?_; refine qt (T_subE hq rfl rfl (by omega) (by unfold fits; omega)) ?_; refine qt (T_ixM (sz := 3) (q := q) rfl rfl rfl rfl rfl rfl hne hqk) ?_; refine qt (T_fap rfl rfl rfl rfl rfl hne) ?_; refine qt (T_ldr rfl rfl rfl (Srd.old h (fun k _ => noOwns k)) (by omega) hat1) ?_; refine qd ?_; refine qd ?_; refine qz ?_; refine qT ?_; refine qq ?_)
      refine S_draw ([pt b8 36 (atc (i + n, pu)), pt b2 39 (lgc (i, t) A k c)]) sub_st (by kernel_rfl) rfl (by kernel_rfl) (by kernel_rfl : _ = 14) ?_
      refine dt 0 rfl (pev_ok rfl) ?_
      refine dt 1 rfl (T_load rfl rfl rfl rfl) ?_
      refine dt 3 rfl (pev_ok rfl) ?_
      refine dt 4 rfl (T_load rfl rfl rfl rfl) ?_
      refine dt 5 rfl (pev_ok rfl) ?_
      (refine dt 6 rfl (T_subE hq rfl rfl (by omega) (by unfold fits; omega)) ?_)
      refine dt 7 rfl (T_ixM (sz := 3) (q := q) rfl rfl rfl rfl rfl rfl hne hqk) ?_
      refine dt 8 rfl (T_fap rfl rfl rfl rfl rfl hne) ?_
      refine dt 9 rfl (T_ldr rfl rfl rfl (Srd.old h (fun k _ => noOwns k)) (by omega) hat2) ?_
      refine D_one 2 rfl (E_lit1 (m := 0) (vs := []) rfl rfl rfl rfl rfl rfl rfl (by simp) (by decide)) ?_ rfl rfl (by kernel_rfl)
      rintro _ _ ⟨bl, rfl, rfl⟩
      refine Nx_same sub_st ?_
      refine D_one 10 rfl (E_apple (sz := 1) (news := bs.map bv) rfl rfl rfl rfl rfl rfl rfl (by decide) .here (Srd.old hd1 (fun k _ => noOwns k)) (bv_ones _) (by show bs.length * 1 ≤ _; omega) (by unfold maxLen; omega)) ?_ rfl rfl (by kernel_rfl)
      rintro _ _ ⟨A', c', rfl, rfl⟩
      refine Nx_same sub_st ?_
      refine dt 11 rfl (pev_ok rfl) ?_
      refine dt 12 rfl (pev_ok rfl) ?_
      refine dt 13 rfl (T_decT rfl (by omega)) ?_
      refine D_done ?_ (by kernel_rfl)
      skip
      skip
      refine hB _ _ _ _ _ rfl rfl fun w' hS => ⟨(A', c'), rfl, trivial, sub_st (H' := [row 5 1 A' bs.length c' (bs.map bv)]) w' hS⟩
    · rw [decide_eq_false hk3, Bool.and_false] at hT
      focus (refine qq ?_; refine qs ?_; refine qp ?_; refine qd ?_; refine qz ?_; refine qT ?_; refine qx ?_; refine qq ?_; refine qb ?_; refine qs ?_; refine qt (T_loads (ds := lgc (i, t) A k c) rfl rfl rfl rfl rfl) ?_; refine qp ?_; ((refine qe (E_hv0 (f := 140) ⟨_, Tryz.func140, rfl, by kernel_rfl⟩ (fun w hS => placeD_any w (i, t) A c k Q l hk hl ((Srd.old h (fun k _ => noOwns k)).rd w hS) (by omega) hfit n hnk _ hp) rfl rfl (fun _ => rfl)) ?_; rintro _ _ ⟨_, rfl, _, rfl⟩)); (refine qe (E_alloca rfl at_zero) ?_; rintro _ _ ⟨b8, rfl, rfl⟩); (refine qw (E_storew (cs := atc (0, 0)) (ds := atc (i + n, pu)) rfl rfl rfl rfl (atc_one _) rfl) ?_; rintro _ _ rfl); refine qn ?_; refine qp ?_; refine qt (T_load rfl rfl rfl rfl) ?_; refine qp ?_; refine qd ?_; refine qd ?_; refine qp ?_; refine qt (T_load rfl rfl rfl rfl) ?_; refine qp ?_; refine qt (T_subE hq rfl rfl (by omega) (by unfold fits; omega)) ?_; refine qt (T_ixM (sz := 3) (q := q) rfl rfl rfl rfl rfl rfl hne hqk) ?_; refine qt (T_fap rfl rfl rfl rfl rfl hne) ?_; refine qt (T_ldr rfl rfl rfl (Srd.old h (fun k _ => noOwns k)) (by omega) hat1) ?_; refine qf ?_; refine qp ?_; refine qz ?_; refine qF ?_; refine qx ?_; refine RS_blk ?_; refine qr ?_; refine qp ?_; refine qt (T_subE hq rfl rfl (by omega) (by unfold fits; omega)) ?_; refine qp ?_; refine qz ?_)
      refine hJ q _ _ ⟨by omega, fun q2 h1 h2 => ?_⟩ (Sub.cons rfl (Sub.cons rfl (Sub.cons rfl Sub.nil))) sub_st (by omega)
      rcases Nat.lt_or_ge n q2 with h3 | h3
      · exact hno q2 h3 h2
      · rw [show q2 = n by omega]; exact hT
  · rw [decide_eq_false hi, Bool.false_and] at hT
    focus (refine qq ?_; refine qs ?_; refine qp ?_; refine qd ?_; refine qz ?_; refine qT ?_; refine qx ?_; refine qq ?_; refine qb ?_; refine qs ?_; refine qt (T_loads (ds := lgc (i, t) A k c) rfl rfl rfl rfl rfl) ?_; refine qp ?_; ((refine qe (E_hv0 (f := 140) ⟨_, Tryz.func140, rfl, by kernel_rfl⟩ (fun w hS => placeD_any w (i, t) A c k Q l hk hl ((Srd.old h (fun k _ => noOwns k)).rd w hS) (by omega) hfit n hnk _ hp) rfl rfl (fun _ => rfl)) ?_; rintro _ _ ⟨_, rfl, _, rfl⟩)); (refine qe (E_alloca rfl at_zero) ?_; rintro _ _ ⟨b8, rfl, rfl⟩); (refine qw (E_storew (cs := atc (0, 0)) (ds := atc (i + n, pu)) rfl rfl rfl rfl (atc_one _) rfl) ?_; rintro _ _ rfl); refine qn ?_; refine qp ?_; refine qt (T_load rfl rfl rfl rfl) ?_; refine qp ?_; refine qf ?_; refine qp ?_; (iterate 8 refine qk ?_); refine qp ?_; refine qz ?_; refine qF ?_; refine qx ?_; refine RS_blk ?_; refine qr ?_; refine qp ?_; refine qt (T_subE hq rfl rfl (by omega) (by unfold fits; omega)) ?_; refine qp ?_; refine qz ?_)
    refine hJ q _ _ ⟨by omega, fun q2 h1 h2 => ?_⟩ (Sub.cons rfl (Sub.cons rfl (Sub.cons rfl Sub.nil))) sub_st (by omega)
    rcases Nat.lt_or_ge n q2 with h3 | h3
    · exact hno q2 h3 h2
    · rw [show q2 = n by omega]; exact hT
end Go.Proofs.YtdeffdldifepkaaGreat
namespace Go.Proofs.YtdeffdldifepkaaGreat
open Go.RowKit
open Asn (pt row rb)
set_option linter.unusedVariables false
set_option linter.unusedSimpArgs false
--@use N
theorem row_bs {w0 w : World} {M : Nat → Prop} {H : List Asn} {e : TypeId} {A : Option Addr} {n c : Nat} {l : List UInt8} (hS : St w0 M H w) (hm : row e 1 A n c (l.map bv) ∈ H) (hl : l.length = n) : Bs w All A n c l := by
  have h1 := hS.at_ hm
  have hf := row_facts h1
  exact ⟨hl.symm, hf.1, hf.2.1, (Rd.of_own h1).more fun _ _ => trivial⟩
section
variable {P : Program} {n : Nat} {w0 : World} {M : Nat → Prop} {T : Slots} {H : List Asn} {dd : Option Tmp} {tt : TypeId} {pos : String} {af : Array Edge} {g : Option (Nat × Bool)}
theorem E_storeA [HasTab P] {x y : Operand} {s : TypeId} {gb off t : Nat} {cs cs' ds : List Value} {i : Ti} {K : List Value → List Asn} (hx : oget T x = some (.pointer (some ⟨gb, off, none⟩))) (hy : oget T y = some (.agg ds.toArray)) (hs : ty P s = some i) (hl : ds.length = i.size) (h1 : ∀ u ∈ ds, u.oneCell' = true) [hu : HUp H gb t cs K] (hc : cs.take off ++ ds ++ cs.drop (off + ds.length) = cs') (hfit : off + ds.length ≤ cs.length) :
    Ef P n w0 M T H ⟨none, .store s x y, tt, pos, af, g⟩ (fun _ H'' => H'' = K cs') := by
  subst hc
  exact E_store hx hy hs (by simp [vcells]) hl h1 rfl hfit
theorem E_storeA1 [HasTab P] {x y : Operand} {s : TypeId} {gb off t : Nat} {cs cs' : List Value} {v : Value} {i : Ti} {K : List Value → List Asn} (hx : oget T x = some (.pointer (some ⟨gb, off, none⟩))) (hy : oget T y = some v) (hs : ty P s = some i) (h1 : v.oneCell' = true) (hl : i.size = 1) [hu : HUp H gb t cs K] (hc : cs.set off v = cs') (hfit : off < cs.length) :
    Ef P n w0 M T H ⟨none, .store s x y, tt, pos, af, g⟩ (fun _ H'' => H'' = K cs') := by
  subst hc
  exact E_store1 hx hy hs h1 hl rfl hfit
end
theorem ogets_cap (T : Slots) (x : Operand) (v : Value) (hx : oget T x = some v) : ∀ cap : List Value, ogets T (#[x] ++ (cap.map Operand.const).toArray).toList = some (v :: cap) := fun cap => by
  have h : ogets T (cap.map Operand.const) = some cap := by
    induction cap with
    | nil => rfl
    | cons u l ih => simp [ogets, ih, oget]
  simp [ogets, hx, h]
theorem take2_succ {a b : List Int} (hl : a.length = b.length) {j : Nat} (hj : j < a.length) : a.take (j + 1) = b.take (j + 1) ↔ a.take j = b.take j ∧ a.getD j 0 = b.getD j 0 := by
  rw [List.take_succ_eq_append_getElem hj, List.take_succ_eq_append_getElem (by omega)]
  have e1 : a.getD j 0 = a[j] := by simp [List.getD, hj]
  have e2 : b.getD j 0 = b[j]'(by omega) := by simp [List.getD, show j < b.length by omega]
  rw [e1, e2]
  constructor
  · intro h
    have := List.append_inj h (by simp [hl])
    exact ⟨this.1, by simpa using this.2⟩
  · rintro ⟨h1, h2⟩
    rw [h1, h2]
set_option maxRecDepth 100000 in
set_option maxHeartbeats 4000000 in
theorem eql_any (w : World) (A A2 : Option Addr) (n c n2 c2 : Nat) (ms ks : List Int) (h : Rd w All 1 A n (ms.map zv)) (h2 : Rd w All 1 A2 n2 (ks.map zv)) (hn : n ≤ 1000) (hn2 : n2 ≤ 1000) :
    Gives Tryz.prog 90 [.slice A n c, .slice A2 n2 c2] [] w (X := Unit) (fun _ => .bool (decide (ms = ks))) (fun _ => True) (fun _ => []) := by
  refine gives_S Tryz.func90 rfl Tryz.ntmps90 Tryz.results90 (by simp) (St.enter w) (fun B hB => ?_)
  have hl : ms.length = n := by have := h.1; simpa using this
  have hl2 : ks.length = n2 := by have := h2.1; simpa using this
  have hne : 0 < n → A ≠ none := fun h0 => by obtain ⟨ad, rfl, _⟩ := h.2 h0; simp
  have hne2 : 0 < n2 → A2 ≠ none := fun h0 => by obtain ⟨ad, rfl, _⟩ := h2.2 h0; simp
  subst hl hl2
  have hld : ∀ j, j < ms.length → (ms.map zv)[j]? = some (zv (ms.getD j 0)) := fun j hj => zv_at hj
  have hld2 : ∀ j, j < ks.length → (ks.map zv)[j]? = some (zv (ks.getD j 0)) := fun j hj => zv_at hj
  by_cases hlen : ms.length = ks.length
  · skip
    focus (refine qs ?_; refine qp ?_; refine qz ?_; refine qq ?_; refine qs ?_; (iterate 4 refine qp ?_); refine qf ?_; refine qz ?_; refine qF ?_; refine qx ?_; refine qq ?_; refine qs ?_; (iterate 3 refine qp ?_); refine qz ?_; refine qb ?_)
    refine S_loop (X := Nat) (fun j => [(0, .slice A ms.length c), (1, .slice A2 ks.length c2), (12, .int .i64 (ms.length : Int)), (13, .int .i64 (j : Int))]) (fun _ => _) (fun j => j ≤ ms.length ∧ ms.take j = ks.take j) (fun j => ms.length - j) rfl 0 ⟨Nat.zero_le _, rfl⟩ (Sub.cons rfl (Sub.cons rfl (Sub.cons rfl (Sub.cons rfl Sub.nil)))) (fun _ h => h) ?_
    rintro j ⟨hj, htk⟩ J hJ
    rcases Nat.lt_or_ge j ms.length with hjl | hjl
    · focus (refine qs ?_; refine qp ?_; refine qz ?_; refine qq ?_; (refine S_if rfl rfl (fun hs => ?_) (fun hs => ?_)); refine qx ?_; refine qq ?_; refine qb ?_; refine qs ?_; refine qp ?_; refine qp ?_; refine qz ?_; refine qq ?_; (refine S_draw _ (fun _ h => h) (by kernel_rfl) rfl (by kernel_rfl) (rfl : _ = 9) ?_; (refine dt 0 rfl (pev_ok rfl) ?_); (refine dt 1 rfl (pev_ok rfl) ?_); (refine dt 2 rfl (T_ixN rfl rfl rfl rfl rfl rfl (by first | assumption | exact hne (by omega) | exact hne2 (by omega)) (by omega)) ?_); (refine dt 3 rfl (T_ldr rfl rfl rfl (Srd.old h (fun k _ => noOwns k)) (by omega) (hld j (by omega))) ?_); (refine dt 4 rfl (pev_ok rfl) ?_); (refine dt 5 rfl (pev_ok rfl) ?_); (refine dt 6 rfl (T_ixN rfl rfl rfl rfl rfl rfl (by first | assumption | exact hne (by omega) | exact hne2 (by omega)) (by omega)) ?_); (refine dt 7 rfl (T_ldr rfl rfl rfl (Srd.old h2 (fun k _ => noOwns k)) (by omega) (hld2 j (by omega))) ?_); (refine dt 8 rfl (pev_ok rfl) ?_); refine D_done ?_ (by kernel_rfl)); (refine S_if rfl rfl (fun hs => ?_) (fun hs => ?_)); refine qs ?_; refine qp ?_; refine qz ?_; rotate_left; refine qx ?_; refine RS_blk ?_; refine qr ?_; refine qt (T_addN rfl rfl (by unfold fits; omega)) ?_; refine qp ?_; refine qz ?_; rotate_left; refine S_exit rfl rfl ?_; refine qs ?_; refine qp ?_; refine qz ?_; rotate_left)
      all_goals (try (exfalso; omega))
      · refine hB _ _ _ _ _ rfl rfl fun w' hS => ⟨(), ?_, trivial, hS.sublist (List.nil_sublist _)⟩
        rw [decide_eq_false]
        · rfl
        · rintro rfl; simp_all
      · refine hJ (j + 1) _ _ ⟨by omega, (take2_succ hlen hjl).2 ⟨htk, by simp_all⟩⟩ (Sub.cons rfl (Sub.cons rfl (Sub.cons rfl (Sub.cons rfl Sub.nil)))) (fun _ h => h) (by omega)
    · skip
      focus (refine qs ?_; refine qf ?_; refine qz ?_; refine qq ?_; refine qF ?_; refine S_exit rfl rfl ?_; refine qs ?_; refine qp ?_; refine qz ?_)
      all_goals (try (exfalso; omega))
      have hjn : j = ms.length := by omega
      subst hjn
      refine hB _ _ _ _ _ rfl rfl fun w' hS => ⟨(), ?_, trivial, hS.sublist (List.nil_sublist _)⟩
      rw [decide_eq_true]
      · rfl
      · rw [List.take_length, hlen, List.take_length] at htk
        exact htk
  · skip
    focus (refine qs ?_; refine qp ?_; refine qz ?_; refine qq ?_; refine qs ?_; (iterate 4 refine qp ?_); refine qd ?_; refine qz ?_; refine qT ?_; refine qs ?_; refine qp ?_; refine qz ?_)
    all_goals (try (exfalso; omega))
    refine hB _ _ _ _ _ rfl rfl fun w' hS => ⟨(), ?_, trivial, hS.sublist (List.nil_sublist _)⟩
    rw [decide_eq_false]
    · rfl
    · rintro rfl; exact hlen rfl
end Go.Proofs.YtdeffdldifepkaaGreat
namespace Go.Proofs.YtdeffdldifepkaaGreat
open Go.RowKit
open Asn (pt row rb)
set_option linter.unusedVariables false
set_option linter.unusedSimpArgs false
--@use N

/-- what a message says -/
structure Ms where
  K : Int
  F : Int
  T : Int
  tm : Nat
  pl : At
  es : List En
  cm : Nat
  ok : Bool
  ix : Nat
  cf : List Int
  dt : List UInt8
/-- where it lies -/
structure Mp where
  A : Option Addr
  n : Nat
  c : Nat
  cA : Option Addr
  cn : Nat
  cc : Nat
  dA : Option Addr
  dn : Nat
  dc : Nat
  Q : List Em
def mgc (x : Ms) (p : Mp) : List Value := [.int .i64 x.K, .int .i64 x.F, .int .i64 x.T, .int .u64 (x.tm : Int), .int .u64 (x.pl.1 : Int), .int .u64 (x.pl.2 : Int), .slice p.A p.n p.c, .int .u64 (x.cm : Int), .bool x.ok, .int .u64 (x.ix : Int), .slice p.cA p.cn p.cc, .slice p.dA p.dn p.dc]
theorem mgc_len (x : Ms) (p : Mp) : (mgc x p).length = 12 := rfl
theorem mgc_one (x : Ms) (p : Mp) : ∀ u ∈ mgc x p, u.oneCell' = true := by simp [mgc, Value.oneCell']
/-- there it can be read -/
structure MsR (w : World) (x : Ms) (p : Mp) : Prop where
  hn : p.Q.length = p.n
  hm : p.n ≤ maxLen
  hQ : p.Q.map emv = x.es
  rq : Rd w All 3 p.A p.n (cellsL emc p.Q)
  bq : ∀ m ∈ p.Q, BsM w m
  hc : x.cf.length = p.cn
  hmc : p.cn ≤ maxLen
  rc : Rd w All 1 p.cA p.cn (x.cf.map zv)
  bd : Bs w All p.dA p.dn p.dc x.dt
theorem MsR.keep {w w' : World} {x : Ms} {p : Mp} (h : MsR w x p) (hk : Kp All w w') : MsR w' x p := ⟨h.hn, h.hm, h.hQ, h.rq.keep hk, fun m hm => Bs.keep (h.bq m hm) hk, h.hc, h.hmc, h.rc.keep hk, Bs.keep h.bd hk⟩
theorem MsR.ln {w : World} {x : Ms} {p : Mp} (h : MsR w x p) : x.es.length = p.n := by rw [← h.hQ, List.length_map, h.hn]
theorem MsR.dn {w : World} {x : Ms} {p : Mp} (h : MsR w x p) : p.dn = x.dt.length := h.bd.len
/-- the fields that count, as bits -/
def fldN (K : Int) : Nat := if K = 1 ∨ K = 3 then 1 else if K = 2 ∨ K = 4 then 2 else if K = 5 then 13 else if K = 6 then 18 else if K = 7 then 97 else 0
set_option maxRecDepth 100000 in
set_option maxHeartbeats 4000000 in
theorem fields_any (w : World) (K : Int) :
    Gives Tryz.prog 114 [.int .i64 K] [] w (X := Unit) (fun _ => .int .i64 (fldN K : Int)) (fun _ => True) (fun _ => []) := by
  refine gives_S Tryz.func114 rfl Tryz.ntmps114 Tryz.results114 (by simp) (St.enter w) (fun B hB => ?_)
  rcases (by omega : K = 1 ∨ K = 2 ∨ K = 3 ∨ K = 4 ∨ K = 5 ∨ K = 6 ∨ K = 7 ∨ (K ≠ 1 ∧ K ≠ 2 ∧ K ≠ 3 ∧ K ≠ 4 ∧ K ≠ 5 ∧ K ≠ 6 ∧ K ≠ 7)) with rfl | rfl | rfl | rfl | rfl | rfl | rfl | hK
  · focus (refine qs ?_; refine qp ?_; refine qz ?_; refine qq ?_; refine qs ?_; refine qp ?_; refine qz ?_; refine qb ?_; refine qq ?_; refine qs ?_; refine qd ?_; refine qp ?_; refine qz ?_; refine qT ?_; refine qx ?_; refine qT ?_; refine qs ?_; refine qp ?_; refine qz ?_)
    exact hB _ _ _ _ _ rfl rfl fun w' hS => ⟨(), rfl, trivial, hS.sublist (List.nil_sublist _)⟩
  · focus (refine qs ?_; refine qp ?_; refine qz ?_; refine qq ?_; refine qs ?_; refine qp ?_; refine qz ?_; refine qb ?_; refine qq ?_; refine qs ?_; refine qf ?_; refine qp ?_; refine qz ?_; refine qF ?_; refine qr ?_; refine qf ?_; refine qp ?_; refine qz ?_; refine qF ?_; refine qq ?_; refine qs ?_; refine qd ?_; refine qp ?_; refine qz ?_; refine qT ?_; refine qx ?_; refine qT ?_; refine qs ?_; refine qp ?_; refine qz ?_)
    exact hB _ _ _ _ _ rfl rfl fun w' hS => ⟨(), rfl, trivial, hS.sublist (List.nil_sublist _)⟩
  · focus (refine qs ?_; refine qp ?_; refine qz ?_; refine qq ?_; refine qs ?_; refine qp ?_; refine qz ?_; refine qb ?_; refine qq ?_; refine qs ?_; refine qf ?_; refine qp ?_; refine qz ?_; refine qF ?_; refine qr ?_; refine qd ?_; refine qp ?_; refine qz ?_; refine qT ?_; refine qs ?_; refine qp ?_; refine qz ?_)
    exact hB _ _ _ _ _ rfl rfl fun w' hS => ⟨(), rfl, trivial, hS.sublist (List.nil_sublist _)⟩
  · focus (refine qs ?_; refine qp ?_; refine qz ?_; refine qq ?_; refine qs ?_; refine qp ?_; refine qz ?_; refine qb ?_; refine qq ?_; refine qs ?_; refine qf ?_; refine qp ?_; refine qz ?_; refine qF ?_; refine qr ?_; refine qf ?_; refine qp ?_; refine qz ?_; refine qF ?_; refine qq ?_; refine qs ?_; refine qf ?_; refine qp ?_; refine qz ?_; refine qF ?_; refine qr ?_; refine qd ?_; refine qp ?_; refine qz ?_; refine qT ?_; refine qs ?_; refine qp ?_; refine qz ?_)
    exact hB _ _ _ _ _ rfl rfl fun w' hS => ⟨(), rfl, trivial, hS.sublist (List.nil_sublist _)⟩
  · focus (refine qs ?_; refine qp ?_; refine qz ?_; refine qq ?_; refine qs ?_; refine qp ?_; refine qz ?_; refine qb ?_; (iterate 2 refine qq ?_; refine qs ?_; refine qf ?_; refine qp ?_; refine qz ?_; refine qF ?_; refine qr ?_; refine qf ?_; refine qp ?_; refine qz ?_; refine qF ?_); refine qs ?_; refine qd ?_; refine qp ?_; refine qz ?_; refine qT ?_; refine qs ?_; refine qp ?_; refine qz ?_)
    exact hB _ _ _ _ _ rfl rfl fun w' hS => ⟨(), rfl, trivial, hS.sublist (List.nil_sublist _)⟩
  · focus (refine qs ?_; refine qp ?_; refine qz ?_; refine qq ?_; refine qs ?_; refine qp ?_; refine qz ?_; refine qb ?_; (iterate 2 refine qq ?_; refine qs ?_; refine qf ?_; refine qp ?_; refine qz ?_; refine qF ?_; refine qr ?_; refine qf ?_; refine qp ?_; refine qz ?_; refine qF ?_); refine qs ?_; refine qf ?_; refine qp ?_; refine qz ?_; refine qF ?_; refine qs ?_; refine qd ?_; refine qp ?_; refine qz ?_; refine qT ?_; refine qs ?_; refine qp ?_; refine qz ?_)
    exact hB _ _ _ _ _ rfl rfl fun w' hS => ⟨(), rfl, trivial, hS.sublist (List.nil_sublist _)⟩
  · focus (refine qs ?_; refine qp ?_; refine qz ?_; refine qq ?_; refine qs ?_; refine qp ?_; refine qz ?_; refine qb ?_; (iterate 2 refine qq ?_; refine qs ?_; refine qf ?_; refine qp ?_; refine qz ?_; refine qF ?_; refine qr ?_; refine qf ?_; refine qp ?_; refine qz ?_; refine qF ?_); (iterate 2 refine qs ?_; refine qf ?_; refine qp ?_; refine qz ?_; refine qF ?_); refine qs ?_; refine qd ?_; refine qp ?_; refine qz ?_; refine qT ?_; refine qs ?_; refine qp ?_; refine qz ?_)
    exact hB _ _ _ _ _ rfl rfl fun w' hS => ⟨(), rfl, trivial, hS.sublist (List.nil_sublist _)⟩
  · focus (refine qs ?_; refine qp ?_; refine qz ?_; refine qq ?_; refine qs ?_; refine qp ?_; refine qz ?_; refine qb ?_; (iterate 2 refine qq ?_; refine qs ?_; refine qf ?_; refine qp ?_; refine qz ?_; refine qF ?_; refine qr ?_; refine qf ?_; refine qp ?_; refine qz ?_; refine qF ?_); (iterate 3 refine qs ?_; refine qf ?_; refine qp ?_; refine qz ?_; refine qF ?_); refine qx ?_; refine RS_blk ?_; refine qs ?_; refine qp ?_; refine qz ?_)
    have e : fldN K = 0 := by unfold fldN; rw [if_neg (by omega), if_neg (by omega), if_neg (by omega), if_neg (by omega), if_neg (by omega)]
    rw [e] at hB
    exact hB _ _ _ _ _ rfl rfl fun w' hS => ⟨(), rfl, trivial, hS.sublist (List.nil_sublist _)⟩
set_option maxRecDepth 100000 in
set_option maxHeartbeats 4000000 in
theorem server_any (w : World) (n : Int) (r : Bool) (hr : (decide (1 ≤ n) && decide (n ≤ 5)) = r) :
    Gives Tryz.prog 116 [.int .i64 n] [] w (X := Unit) (fun _ => .bool r) (fun _ => True) (fun _ => []) := by
  refine gives_S Tryz.func116 rfl Tryz.ntmps116 Tryz.results116 (by simp) (St.enter w) (fun B hB => ?_)
  subst hr
  by_cases h1 : 1 ≤ n
  · by_cases h2 : n ≤ 5
    · rw [decide_eq_true h1, decide_eq_true h2] at hB
      focus (refine qs ?_; refine qp ?_; refine qn ?_; (iterate 2 refine qp ?_; refine qd ?_; refine qp ?_); refine qp ?_; refine qz ?_)
      exact hB _ _ _ _ _ rfl rfl fun w' hS => ⟨(), rfl, trivial, hS.sublist (List.nil_sublist _)⟩
    · rw [decide_eq_true h1, decide_eq_false h2] at hB
      focus (refine qs ?_; refine qp ?_; refine qn ?_; refine qp ?_; refine qd ?_; refine qp ?_; refine qp ?_; refine qf ?_; refine qp ?_; refine qp ?_; refine qz ?_)
      exact hB _ _ _ _ _ rfl rfl fun w' hS => ⟨(), rfl, trivial, hS.sublist (List.nil_sublist _)⟩
  · rw [decide_eq_false h1, Bool.false_and] at hB
    focus (refine qs ?_; refine qp ?_; refine qn ?_; refine qp ?_; refine qf ?_; refine qp ?_; refine qk ?_; refine qk ?_; refine qp ?_; refine qp ?_; refine qz ?_)
    exact hB _ _ _ _ _ rfl rfl fun w' hS => ⟨(), rfl, trivial, hS.sublist (List.nil_sublist _)⟩
set_option maxRecDepth 100000 in
set_option maxHeartbeats 4000000 in
theorem num255_any (w : World) (n : Int) :
    Gives Tryz.prog 119 [zv n] [] w (X := Unit) (fun _ => .bool (!(decide (1 ≤ n) && decide (n ≤ 255)))) (fun _ => True) (fun _ => []) := by
  refine gives_S Tryz.func119 rfl Tryz.ntmps119 Tryz.results119 (by simp) (St.enter w) (fun B hB => ?_)
  unfold zv
  by_cases h1 : 1 ≤ n
  · by_cases h2 : n ≤ 255
    · rw [decide_eq_true h1, decide_eq_true h2] at hB
      focus (refine qs ?_; refine qp ?_; refine qn ?_; (iterate 2 refine qp ?_; refine qf ?_; refine qp ?_); refine qp ?_; refine qz ?_)
      exact hB _ _ _ _ _ rfl rfl fun w' hS => ⟨(), rfl, trivial, hS.sublist (List.nil_sublist _)⟩
    · rw [decide_eq_true h1, decide_eq_false h2] at hB
      focus (refine qs ?_; refine qp ?_; refine qn ?_; refine qp ?_; refine qf ?_; refine qp ?_; refine qp ?_; refine qd ?_; refine qp ?_; refine qp ?_; refine qz ?_)
      exact hB _ _ _ _ _ rfl rfl fun w' hS => ⟨(), rfl, trivial, hS.sublist (List.nil_sublist _)⟩
  · rw [decide_eq_false h1, Bool.false_and] at hB
    focus (refine qs ?_; refine qp ?_; refine qn ?_; refine qp ?_; refine qd ?_; refine qp ?_; refine qk ?_; refine qk ?_; refine qp ?_; refine qp ?_; refine qz ?_)
    exact hB _ _ _ _ _ rfl rfl fun w' hS => ⟨(), rfl, trivial, hS.sublist (List.nil_sublist _)⟩
/-- where one is, of which something is so -/
def idxZ (p : Int → Bool) (L : List Int) : Int := if L.all (fun x => !p x) then -1 else (L.findIdx p : Nat)
set_option maxRecDepth 100000 in
set_option maxHeartbeats 4000000 in
theorem idxfZ_any (w : World) (A : Option Addr) (n c f : Nat) (cap : List Value) (L : List Int) (p : Int → Bool) (h : Rd w All 1 A n (L.map zv)) (hn : n ≤ 100000) (hf : Fn_ Tryz.prog f)
    (hp : ∀ w', Kp All w w' → ∀ x ∈ L, Gives Tryz.prog f (zv x :: cap) [] w' (X := Unit) (fun _ => .bool (p x)) (fun _ => True) (fun _ => [])) :
    Gives Tryz.prog 166 [.slice A n c, .func (.func f) #[] cap.toArray] [] w (X := Unit) (fun _ => zi (idxZ p L)) (fun _ => True) (fun _ => []) := by
  refine gives_S Tryz.func166 rfl Tryz.ntmps166 Tryz.results166 (by simp) (St.enter w) (fun B hB => ?_)
  have hl : L.length = n := by have := h.1; simpa using this
  have hne : 0 < n → A ≠ none := fun h0 => by obtain ⟨ad, rfl, _⟩ := h.2 (by omega); simp
  subst hl
  focus (refine qs ?_; refine qp ?_; refine qz ?_; refine qq ?_; refine qs ?_; (iterate 3 refine qp ?_); refine qz ?_; refine qb ?_)
  refine S_loop (X := Nat) (fun j => [(0, .slice A L.length c), (1, .func (.func f) #[] cap.toArray), (7, .int .i64 (L.length : Int)), (8, .int .i64 (j : Int))]) (fun _ => []) (fun j => j ≤ L.length ∧ (L.take j).all (fun x => !p x) = true) (fun j => L.length - j) rfl 0 ⟨Nat.zero_le _, rfl⟩ (Sub.cons rfl (Sub.cons rfl (Sub.cons rfl (Sub.cons rfl Sub.nil)))) (fun _ h => h) ?_
  rintro j ⟨hj, hok⟩ J hJ
  rcases Nat.lt_or_ge j L.length with hjl | hjl
  · have hne := hne (by omega)
    have hat := zv_at (l := L) (j := j) hjl
    have hmem : L.getD j 0 ∈ L := by simp [List.getD, hjl]
    have htk : L.take (j + 1) = L.take j ++ [L.getD j 0] := by rw [List.take_succ_eq_append_getElem hjl]; simp [List.getD, hjl]
    have hsp : L = L.take j ++ L.getD j 0 :: L.drop (j + 1) := by
      conv => lhs; rw [← List.take_append_drop j L, List.drop_eq_getElem_cons hjl]
      simp [List.getD, hjl]
    obtain ⟨x, hx⟩ : ∃ x, L.getD j 0 = x := ⟨_, rfl⟩
    rw [hx] at hat hmem htk hsp
    obtain ⟨r, hr⟩ : ∃ r, p x = r := ⟨_, rfl⟩
    cases r
    · focus (refine qs ?_; refine qd ?_; refine qz ?_; refine qq ?_; refine qT ?_; refine qx ?_; refine qq ?_; refine qb ?_; refine qs ?_; refine qp ?_; refine qp ?_; refine qn ?_; (iterate 3 refine qp ?_); refine qt (T_ix1 rfl rfl rfl rfl rfl rfl hne hjl) ?_; refine qt (T_ldr (v := zv x) rfl rfl rfl (Srd.old h (fun k _ => noOwns k)) (by omega) hat) ?_; (refine qe (E_cloA (cap := cap) rfl (E_gv0 hf (ogets_cap _ _ (zv x) rfl cap) (fun w' hS => hp w' hS.kpO x hmem) (fun _ => rfl))) ?_; rintro _ _ ⟨_, rfl, _, rfl⟩; rw [hr]); refine qz ?_; refine qF ?_; refine qx ?_; refine RS_blk ?_; refine qr ?_; refine qt (T_addN rfl rfl (by unfold fits; omega)) ?_; refine qp ?_; refine qz ?_)
      exact hJ (j + 1) _ _ ⟨by omega, by rw [htk, List.all_append, hok]; simp [hr]⟩ (Sub.cons rfl (Sub.cons rfl (Sub.cons rfl (Sub.cons rfl Sub.nil)))) (fun _ h => h) (by omega)
    · focus (refine qs ?_; refine qd ?_; refine qz ?_; refine qq ?_; refine qT ?_; refine qx ?_; refine qq ?_; refine qb ?_; refine qs ?_; refine qp ?_; refine qp ?_; refine qn ?_; (iterate 3 refine qp ?_); refine qt (T_ix1 rfl rfl rfl rfl rfl rfl hne hjl) ?_; refine qt (T_ldr (v := zv x) rfl rfl rfl (Srd.old h (fun k _ => noOwns k)) (by omega) hat) ?_; (refine qe (E_cloA (cap := cap) rfl (E_gv0 hf (ogets_cap _ _ (zv x) rfl cap) (fun w' hS => hp w' hS.kpO x hmem) (fun _ => rfl))) ?_; rintro _ _ ⟨_, rfl, _, rfl⟩; rw [hr]); refine qz ?_; refine qT ?_; refine qs ?_; refine qp ?_; refine qp ?_; refine qz ?_)
      refine hB _ _ _ _ _ rfl rfl fun w' hS => ⟨(), ?_, trivial, hS.sublist (List.nil_sublist _)⟩
      show Value.int _ _ = Value.int _ _
      congr 1
      have h1 : ¬ L.all (fun x => !p x) = true := by
        rw [List.all_eq_true]
        intro h
        have := h x hmem
        rw [hr] at this
        cases this
      rw [idxZ, if_neg h1, hsp, List.findIdx_append]
      have h2 : (L.take j).findIdx p = (L.take j).length := by
        rw [List.findIdx_eq_length]
        intro y hy
        have := List.all_eq_true.1 hok y hy
        simpa using this
      rw [h2, if_neg (Nat.lt_irrefl _), List.findIdx_cons, hr]
      simp
      omega
  have hjn : j = L.length := by omega
  subst hjn
  rw [List.take_length] at hok
  focus (refine qs ?_; refine qf ?_; refine qz ?_; refine qq ?_; refine qF ?_; refine S_exit rfl rfl ?_; refine qs ?_; refine qp ?_; refine qz ?_)
  refine hB _ _ _ _ _ rfl rfl fun w' hS => ⟨(), ?_, trivial, hS.sublist (List.nil_sublist _)⟩
  rw [idxZ, if_pos hok]
  rfl
set_option maxRecDepth 100000 in
set_option maxHeartbeats 4000000 in
theorem confZ_any (w : World) (A : Option Addr) (n c f : Nat) (cap : List Value) (L : List Int) (p : Int → Bool) (h : Rd w All 1 A n (L.map zv)) (hn : n ≤ 100000) (hf : Fn_ Tryz.prog f)
    (hp : ∀ w', Kp All w w' → ∀ x ∈ L, Gives Tryz.prog f (zv x :: cap) [] w' (X := Unit) (fun _ => .bool (p x)) (fun _ => True) (fun _ => [])) :
    Gives Tryz.prog 118 [.slice A n c, .func (.func f) #[] cap.toArray] [] w (X := Unit) (fun _ => .bool (!L.all (fun x => !p x))) (fun _ => True) (fun _ => []) := by
  refine gives_S Tryz.func118 rfl Tryz.ntmps118 Tryz.results118 (by simp) (St.enter w) (fun B hB => ?_)
  focus (refine qs ?_; refine qp ?_; refine qn ?_; refine qp ?_; refine qp ?_; (refine qe (E_hv0 (f := 166) ⟨_, Tryz.func166, rfl, by kernel_rfl⟩ (fun w hS => idxfZ_any w A n c f cap L p ((Srd.old h (fun k _ => noOwns k)).rd w hS) hn hf (fun w' hk x hx => hp w' (hS.kpO.trans hk) x hx)) rfl rfl (fun _ => rfl)) ?_; rintro _ _ ⟨_, rfl, _, rfl⟩); refine qp ?_; refine qp ?_; refine qz ?_)
  refine hB _ _ _ _ _ rfl rfl fun w' hS => ⟨(), ?_, trivial, hS.sublist (List.nil_sublist _)⟩
  refine congrArg Value.bool ?_
  rw [idxZ]
  cases L.all (fun x => !p x)
  · simp
  · simp
theorem cells_cut {α : Type} {f : α → List Value} {k : Nat} (hf : ∀ a, (f a).length = k) (l : List α) (d : α) (j : Nat) (hj : j < l.length) : ((cellsL f l).drop (j * k)).take k = f (l.getD j d) := by
  have h := cellsL_at (f := f) hf l d j hj
  have hl := cellsL_len (f := f) hf l
  have hle : (j + 1) * k ≤ l.length * k := Nat.mul_le_mul_right _ hj
  rw [Nat.succ_mul] at hle
  refine List.ext_getElem? fun i => ?_
  rw [List.getElem?_take]
  split
  · rename_i hi
    rw [List.getElem?_drop]
    have h2 : (f (l.getD j d))[i]? = some ((f (l.getD j d))[i]'(by rw [hf]; exact hi)) := List.getElem?_eq_getElem _
    rw [h2]
    exact h i _ h2
  · rename_i hi
    exact (List.getElem?_eq_none (by rw [hf]; omega)).symm
/-- bits of numbers -/
def bitsN : List (Bool × Nat) → Nat → Nat
  | [], v => v
  | z :: l, v => bitsN l (if z.1 then v ||| z.2 else v)
def setL (x : Ms) : List (Bool × Nat) := [(!decide (x.pl = (0, 0)), 1), (x.ok, 2), (decide (0 < x.es.length), 4), (decide (0 < x.cm), 8), (decide (0 < x.ix), 16), (decide (0 < x.cf.length), 32), (decide (0 < x.dt.length), 64)]
def setN (x : Ms) : Nat := bitsN (setL x) 0
def sfc (z : Bool × Nat) : List Value := [.bool z.1, .int .i64 (z.2 : Int)]
theorem sfc_len (z : Bool × Nat) : (sfc z).length = 2 := rfl
theorem sfc_one (z : Bool × Nat) : ∀ u ∈ sfc z, u.oneCell' = true := by simp [sfc, Value.oneCell']
theorem sf_zero : ti187.zero = .agg (sfc (false, 0)).toArray := by kernel_rfl
theorem sf_built (b : Bool) (f : Nat) : Tryz.prog.built 187 [(0, .bool b), (1, .int .i64 (f : Int))] = some (sfc (b, f)).toArray := by kernel_rfl
theorem s7_built (a b c d e f g : Bool × Nat) : Tryz.prog.built 188 [(0, .agg (sfc a).toArray), (1, .agg (sfc b).toArray), (2, .agg (sfc c).toArray), (3, .agg (sfc d).toArray), (4, .agg (sfc e).toArray), (5, .agg (sfc f).toArray), (6, .agg (sfc g).toArray)] = some (cellsL sfc [a, b, c, d, e, f, g]).toArray := by kernel_rfl
theorem bits_snoc (l : List (Bool × Nat)) (z : Bool × Nat) (v : Nat) : bitsN (l ++ [z]) v = if z.1 then bitsN l v ||| z.2 else bitsN l v := by
  induction l generalizing v with
  | nil => rfl
  | cons y l ih => exact ih _
theorem bits_lt : ∀ (l : List (Bool × Nat)) (v : Nat), (∀ z ∈ l, z.2 < 128) → v < 128 → bitsN l v < 128
  | [], v, _, hv => hv
  | z :: l, v, hl, hv => by
    unfold bitsN
    refine bits_lt l _ (fun y hy => hl y (List.mem_cons_of_mem _ hy)) ?_
    split
    · exact Nat.or_lt_two_pow (n := 7) hv (hl z (List.mem_cons_self ..))
    · exact hv
theorem setL_lt (x : Ms) : ∀ z ∈ setL x, z.2 < 128 := by simp [setL]
section
variable {P : Program} {n : Nat} {w0 : World} {M : Nat → Prop} {T : Slots} {H : List Asn} {dd : Option Tmp} {tt : TypeId} {pos : String} {af : Array Edge} {g : Option (Nat × Bool)} {x y : Operand} {t u : TypeId}
theorem wrap_nat {p : Nat} (hp : p < 9223372036854775808) : IntKind.i64.wrap (p : Int) = (p : Int) := wrap_fits (show fits .i64 (p : Int) by unfold fits; omega)
theorem T_orN {i j : Int} {p q r : Nat} (h : p ||| q = r) (hx : oget T x = some (.int .i64 i)) (hy : oget T y = some (.int .i64 j)) [hi : NatOf i p] [hj : NatOf j q] (hp : p < 128) (hq : q < 128) :
    Tk P n w0 M T H ⟨dd, .binOp .or t x y u, tt, pos, af, g⟩ (.int .i64 (r : Int)) := by
  subst h
  rw [hi.is] at hx
  rw [hj.is] at hy
  refine T_arith hx hy ?_
  have h1 : p ||| q < 128 := Nat.or_lt_two_pow (n := 7) hp hq
  show some (IntKind.i64.wrap (((BitVec.ofInt 64 (p : Int) ||| BitVec.ofInt 64 (q : Int)).toNat : Nat) : Int)) = _
  rw [BitVec.ofInt_natCast, BitVec.ofInt_natCast, BitVec.toNat_or, BitVec.toNat_ofNat, BitVec.toNat_ofNat, Nat.mod_eq_of_lt (by omega), Nat.mod_eq_of_lt (by omega), wrap_nat (by omega)]
theorem T_andN {i j : Int} {p q r : Nat} (h : p &&& q = r) (hx : oget T x = some (.int .i64 i)) (hy : oget T y = some (.int .i64 j)) [hi : NatOf i p] [hj : NatOf j q] (hp : p < 128) (hq : q < 128) :
    Tk P n w0 M T H ⟨dd, .binOp .and t x y u, tt, pos, af, g⟩ (.int .i64 (r : Int)) := by
  subst h
  rw [hi.is] at hx
  rw [hj.is] at hy
  refine T_arith hx hy ?_
  have h1 : p &&& q < 128 := Nat.lt_of_le_of_lt Nat.and_le_left hp
  show some (IntKind.i64.wrap (((BitVec.ofInt 64 (p : Int) &&& BitVec.ofInt 64 (q : Int)).toNat : Nat) : Int)) = _
  rw [BitVec.ofInt_natCast, BitVec.ofInt_natCast, BitVec.toNat_and, BitVec.toNat_ofNat, BitVec.toNat_ofNat, Nat.mod_eq_of_lt (by omega), Nat.mod_eq_of_lt (by omega), wrap_nat (by omega)]
/-- an element of an array of structs -/
theorem part_ag {P : Program} {t : TypeId} {ds : TypeDesc} {xs ys : Array Value} {off n : Nat} (hu : P.underlying t = some ds) (ha : aggB ds = true) (hz : ∀ w, (sizeOf t).run P w = .ok n w) (hx : xs.extract off (off + n) = ys) (w : World) : (part t xs off).run P w = .ok (.agg ys) w := by
  subst hx
  cases ds <;> first | (cases ha; done) | simp [part, isAgg, run_underlying hu, hz]
theorem T_ixva [HasTab P] {s e : TypeId} {m q sz : Nat} {z : Int} {kk : IntKind} {i ei : Ti} {cs ds : List Value} (hx : oget T x = some (.agg cs.toArray)) (hy : oget T y = some (.int kk z)) [hz : NatOf z q] (hs : ty P s = some i) (hi : i.desc = .array m e) (he : ty P e = some ei) (ha : aggB ei.desc = true) (h1 : ei.size = sz) (hq : q < m) (hv : (cs.drop (q * sz)).take sz = ds) :
    Tk P n w0 M T H ⟨dd, .index s x y, tt, pos, af, g⟩ (.agg ds.toArray) := .mk fun a w hT hS => by
  subst h1
  rw [hz.is] at hy
  have hu := run_underlying (hi ▸ ty_ok hs) w
  have hp := part_ag (P := P) (t := e) (ty_ok he) ha (xs := cs.toArray) (off := q * ei.size) (n := ei.size) (ys := ds.toArray) (fun w => ty_size he w) (by subst hv; simp) w
  have hr : (Instr.index s (.agg cs.toArray) (.int kk (q : Int))).run P w = .ok (.agg ds.toArray) w := by
    simp [Instr.index, hu, asIntOf, ty_size he w, hq, hp]
  simp only [execOp, hT.eval hx, hT.eval hy, Sem.run_bind, hr, Result.andThen_ok, Sem.run_pure]
theorem T_build7 {s : TypeId} {j1 j2 j3 j4 j5 j6 j7 : Nat} {x1 x2 x3 x4 x5 x6 x7 : Operand} {u1 u2 u3 u4 u5 u6 u7 : Value} {cs : List Value} (h1 : oget T x1 = some u1) (h2 : oget T x2 = some u2) (h3 : oget T x3 = some u3) (h4 : oget T x4 = some u4) (h5 : oget T x5 = some u5) (h6 : oget T x6 = some u6) (h7 : oget T x7 = some u7) (hb : P.built s [(j1, u1), (j2, u2), (j3, u3), (j4, u4), (j5, u5), (j6, u6), (j7, u7)] = some cs.toArray) :
    Tk P n w0 M T H ⟨dd, .build s #[(j1, x1), (j2, x2), (j3, x3), (j4, x4), (j5, x5), (j6, x6), (j7, x7)], tt, pos, af, g⟩ (.agg cs.toArray) := .mk fun a w ha hS => by
  have hr := run_build (P := P) w s #[(j1, u1), (j2, u2), (j3, u3), (j4, u4), (j5, u5), (j6, u6), (j7, u7)] cs.toArray (by simpa using hb)
  simp only [execOp, List.map_toArray, List.map_cons, List.map_nil, ha.eval h1, ha.eval h2, ha.eval h3, ha.eval h4, ha.eval h5, ha.eval h6, ha.eval h7, Sem.run_bind, hr, Result.andThen_ok, Sem.run_pure]
end
set_option maxRecDepth 100000 in
set_option maxHeartbeats 4000000 in
theorem set_any (w : World) (x : Ms) (p : Mp) (h : MsR w x p) :
    Gives Tryz.prog 115 [.agg (mgc x p).toArray] [] w (X := Unit) (fun _ => .int .i64 (setN x : Int)) (fun _ => True) (fun _ => []) := by
  refine gives_S Tryz.func115 rfl Tryz.ntmps115 Tryz.results115 (by simp) (St.enter w) (fun B hB => ?_)
  obtain ⟨s, hs⟩ : ∃ s, setL x = s := ⟨_, rfl⟩
  have hs7 : ∀ z ∈ s, z.2 < 128 := hs ▸ setL_lt x
  have hsl : s.length = 7 := by rw [← hs]; rfl
  have hr : setN x = bitsN s 0 := by unfold setN; rw [hs]
  rw [hr] at hB
  have hln := h.ln
  have hdn := h.dn
  have hcn := h.hc
  have e3 : decide ((0 : Int) < (p.n : Int)) = decide (0 < x.es.length) := decide_eq_decide.2 (by omega)
  have e4 : decide ((0 : Int) < (x.cm : Int)) = decide (0 < x.cm) := decide_eq_decide.2 (by omega)
  have e5 : decide ((0 : Int) < (x.ix : Int)) = decide (0 < x.ix) := decide_eq_decide.2 (by omega)
  have e6 : decide ((0 : Int) < (p.cn : Int)) = decide (0 < x.cf.length) := decide_eq_decide.2 (by omega)
  have e7 : decide ((0 : Int) < (p.dn : Int)) = decide (0 < x.dt.length) := decide_eq_decide.2 (by omega)
  focus (refine qs ?_; (refine qe (E_boxa (cs := mgc x p) rfl) ?_; rintro _ _ ⟨b1, rfl, rfl⟩); refine qp ?_; refine qn ?_; refine qp ?_; refine qz ?_; refine qq ?_; refine qq ?_; (refine S_draw _ (fun _ h => h) (by kernel_rfl) rfl (by kernel_rfl) (rfl : _ = 34) ?_; (refine dt 0 rfl (pev_ok rfl) ?_); (refine dt 1 rfl (T_loads (ds := atc x.pl) rfl rfl rfl rfl rfl) ?_); (refine dt 2 rfl (T_build0 at_built0) ?_); (refine dt 3 rfl (T_neAt (a := x.pl) (b := (0, 0)) rfl rfl rfl) ?_); (refine dt 4 rfl (T_build2 rfl rfl (sf_built _ _)) ?_); (refine dt 5 rfl (pev_ok rfl) ?_); (refine dt 6 rfl (T_load rfl rfl rfl rfl) ?_); (refine dt 7 rfl (T_build2 rfl rfl (sf_built _ _)) ?_); (refine dt 8 rfl (pev_ok rfl) ?_); (refine dt 9 rfl (T_load rfl rfl rfl rfl) ?_); (refine dt 10 rfl (pev_ok rfl) ?_); (refine dt 11 rfl (pev_ok rfl) ?_); (refine dt 12 rfl (T_build2 rfl rfl (sf_built _ _)) ?_); (refine dt 13 rfl (pev_ok rfl) ?_); (refine dt 14 rfl (T_load rfl rfl rfl rfl) ?_); (refine dt 15 rfl (pev_ok rfl) ?_); (refine dt 16 rfl (T_build2 rfl rfl (sf_built _ _)) ?_); (refine dt 17 rfl (pev_ok rfl) ?_); (refine dt 18 rfl (T_load rfl rfl rfl rfl) ?_); (refine dt 19 rfl (pev_ok rfl) ?_); (refine dt 20 rfl (T_build2 rfl rfl (sf_built _ _)) ?_); (refine dt 21 rfl (pev_ok rfl) ?_); (refine dt 22 rfl (pev_ok rfl) ?_); (refine dt 23 rfl (T_load rfl rfl rfl rfl) ?_); (refine dt 24 rfl (pev_ok rfl) ?_); (refine dt 25 rfl (pev_ok rfl) ?_); (refine dt 26 rfl (T_build2 rfl rfl (sf_built _ _)) ?_); (refine dt 27 rfl (pev_ok rfl) ?_); (refine dt 28 rfl (T_load rfl rfl rfl rfl) ?_); (refine dt 29 rfl (pev_ok rfl) ?_); (refine dt 30 rfl (pev_ok rfl) ?_); (refine dt 31 rfl (T_build2 rfl rfl (sf_built _ _)) ?_); (refine dt 32 rfl (T_build7 rfl rfl rfl rfl rfl rfl rfl (s7_built _ _ _ _ _ _ _)) ?_); (refine dt 33 rfl (pev_ok rfl) ?_); refine D_done ?_ (by kernel_rfl)); refine qb ?_)
  rw [e3, e4, e5, e6, e7]
  have hs' : [(!decide (x.pl = (0, 0)), 1), (x.ok, 2), (decide (0 < x.es.length), 4), (decide (0 < x.cm), 8), (decide (0 < x.ix), 16), (decide (0 < x.cf.length), 32), (decide (0 < x.dt.length), 64)] = s := hs
  rw [hs']
  refine S_loop (X := Nat × Nat) (fun z => [(38, .agg (cellsL sfc s).toArray), (39, .int .i64 (z.1 : Int)), (3, .int .i64 (z.2 : Int))]) (fun _ => []) (fun z => z.1 ≤ 7 ∧ z.2 = bitsN (s.take z.1) 0 ∧ z.2 < 128) (fun z => 7 - z.1) rfl (0, 0) ⟨by decide, rfl, by decide⟩ (Sub.cons rfl (Sub.cons rfl (Sub.cons rfl Sub.nil))) sub_st ?_
  rintro ⟨j, v⟩ ⟨hj, hv, hv7⟩ J hJ
  dsimp only at hj hv hv7 ⊢
  rcases Nat.lt_or_ge j 7 with hjl | hjl
  · have htk : s.take (j + 1) = s.take j ++ [s.getD j default] := by rw [List.take_succ_eq_append_getElem (by omega)]; simp [List.getD, show j < s.length by omega]
    have hm : s.getD j default ∈ s := by simp [List.getD, show j < s.length by omega]
    have hdr : ((cellsL sfc s).drop (j * 2)).take 2 = sfc (s.getD j default) := cells_cut sfc_len s default j (by omega)
    have hb7 := hs7 _ hm
    generalize s.getD j default = z at htk hdr hb7
    obtain ⟨b, f⟩ := z
    have hb7 : f < 128 := hb7
    have hnx : bitsN (s.take (j + 1)) 0 = if b then v ||| f else v := by rw [htk, bits_snoc, ← hv]
    cases b
    · skip
      focus (refine qs ?_; refine qd ?_; refine qz ?_; refine qq ?_; refine qT ?_; refine qx ?_; refine qq ?_; refine qb ?_; refine qs ?_; refine qt (T_ixva (q := j) (sz := 2) (ds := sfc (false, f)) rfl rfl rfl rfl rfl rfl rfl (by omega) hdr) ?_; (refine qe (E_alloca rfl sf_zero) ?_; rintro _ _ ⟨b5, rfl, rfl⟩); (refine qw (E_storew (cs := sfc (false, 0)) (ds := sfc (false, f)) rfl rfl rfl rfl (sfc_one _) rfl) ?_; rintro _ _ rfl); refine qn ?_; refine qp ?_; refine qt (T_load rfl rfl rfl rfl) ?_; refine qz ?_; refine qF ?_; refine qx ?_; refine RS_blk ?_; refine qr ?_; refine qt (T_addN rfl rfl (by unfold fits; omega)) ?_; refine qp ?_; refine qz ?_)
      exact hJ (j + 1, v) _ _ ⟨by show j + 1 ≤ 7; omega, hnx.symm, hv7⟩ (Sub.cons rfl (Sub.cons rfl (Sub.cons rfl Sub.nil))) sub_st (by show 7 - (j + 1) < _; omega)
    · skip
      focus (refine qs ?_; refine qd ?_; refine qz ?_; refine qq ?_; refine qT ?_; refine qx ?_; refine qq ?_; refine qb ?_; refine qs ?_; refine qt (T_ixva (q := j) (sz := 2) (ds := sfc (true, f)) rfl rfl rfl rfl rfl rfl rfl (by omega) hdr) ?_; (refine qe (E_alloca rfl sf_zero) ?_; rintro _ _ ⟨b5, rfl, rfl⟩); (refine qw (E_storew (cs := sfc (false, 0)) (ds := sfc (true, f)) rfl rfl rfl rfl (sfc_one _) rfl) ?_; rintro _ _ rfl); refine qn ?_; refine qp ?_; refine qt (T_load rfl rfl rfl rfl) ?_; refine qz ?_; refine qT ?_; refine qr ?_; refine qp ?_; refine qp ?_; refine qt (T_load rfl rfl rfl rfl) ?_; refine qt (T_orN (p := v) (q := f) (r := v ||| f) rfl rfl rfl hv7 hb7) ?_; refine qp ?_; refine qz ?_; refine RS_blk ?_; refine qr ?_; refine qt (T_addN rfl rfl (by unfold fits; omega)) ?_; refine qp ?_; refine qz ?_)
      exact hJ (j + 1, v ||| f) _ _ ⟨by show j + 1 ≤ 7; omega, hnx.symm, Nat.or_lt_two_pow (n := 7) hv7 hb7⟩ (Sub.cons rfl (Sub.cons rfl (Sub.cons rfl Sub.nil))) sub_st (by show 7 - (j + 1) < _; omega)
  obtain rfl : j = 7 := by omega
  rw [List.take_of_length_le (by omega)] at hv
  subst hv
  focus (refine qs ?_; refine qf ?_; refine qz ?_; refine qq ?_; refine qF ?_; refine S_exit rfl rfl ?_; refine qs ?_; refine qp ?_; refine qp ?_; refine qz ?_)
  exact hB _ _ _ _ _ rfl rfl fun w' hS => ⟨(), rfl, trivial, hS.sublist (List.nil_sublist _)⟩
/-- may a place be, for a kind and a term? -/
def sndB (K : Int) (tm a t n : Nat) : Bool := (decide (a = 0) == decide (t = 0)) && decide (t ≤ tm) && decide (a ≤ 18446744073709551614 - n) && (if K = 1 then decide (t < tm) else if K = 7 then decide (0 < t) else true)
set_option maxRecDepth 100000 in
set_option maxHeartbeats 4000000 in
theorem sound_k (w : World) (x : Ms) (p : Mp) (h : MsR w x p) (r : Bool) (hr : sndB x.K x.tm x.pl.1 x.pl.2 p.n = r) :
    Gives Tryz.prog 117 [.agg (mgc x p).toArray] [] w (X := Unit) (fun _ => .bool r) (fun _ => True) (fun _ => []) := by
  refine gives_S Tryz.func117 rfl Tryz.ntmps117 Tryz.results117 (by simp) (St.enter w) (fun B hB => ?_)
  have hm := h.hm
  unfold maxLen at hm
  clear h
  rcases (by omega : (x.pl.1 = 0 ∧ x.pl.2 ≠ 0) ∨ (x.pl.1 ≠ 0 ∧ x.pl.2 = 0) ∨ (x.pl.1 = 0 ∧ x.pl.2 = 0) ∨ (x.pl.1 ≠ 0 ∧ x.pl.2 ≠ 0)) with ⟨ha, ht⟩ | ⟨ha, ht⟩ | ⟨ha, ht⟩ | ⟨ha, ht⟩
  · obtain rfl : r = false := by rw [← hr]; simp [sndB]; omega
    focus (refine qs ?_; (refine qe (E_boxa (cs := mgc x p) rfl) ?_; rintro _ _ ⟨b1, rfl, rfl⟩); refine qp ?_; refine qn ?_; refine qp ?_; refine qt (T_loads (ds := atc x.pl) rfl rfl rfl rfl rfl) ?_; (refine qe (E_alloca rfl at_zero) ?_; rintro _ _ ⟨b3, rfl, rfl⟩); (refine qw (E_storew (cs := atc (0, 0)) (ds := atc x.pl) rfl rfl rfl rfl (atc_one _) rfl) ?_; rintro _ _ rfl); refine qz ?_; refine qq ?_; refine qb ?_; refine qq ?_; refine qs ?_; refine qp ?_; refine qt (T_load rfl rfl rfl rfl) ?_; refine qd ?_; refine qp ?_; refine qt (T_load rfl rfl rfl rfl) ?_; refine qf ?_; refine qt (T_bnq rfl rfl rfl rfl rfl) ?_; refine qp ?_; refine qz ?_; refine qT ?_; refine qx ?_; refine qT ?_; refine qs ?_; refine qp ?_; refine qz ?_)
    exact hB _ _ _ _ _ rfl rfl fun w' hS => ⟨(), rfl, trivial, hS.sublist (List.nil_sublist _)⟩
  · obtain rfl : r = false := by rw [← hr]; simp [sndB]; omega
    focus (refine qs ?_; (refine qe (E_boxa (cs := mgc x p) rfl) ?_; rintro _ _ ⟨b1, rfl, rfl⟩); refine qp ?_; refine qn ?_; refine qp ?_; refine qt (T_loads (ds := atc x.pl) rfl rfl rfl rfl rfl) ?_; (refine qe (E_alloca rfl at_zero) ?_; rintro _ _ ⟨b3, rfl, rfl⟩); (refine qw (E_storew (cs := atc (0, 0)) (ds := atc x.pl) rfl rfl rfl rfl (atc_one _) rfl) ?_; rintro _ _ rfl); refine qz ?_; refine qq ?_; refine qb ?_; refine qq ?_; refine qs ?_; refine qp ?_; refine qt (T_load rfl rfl rfl rfl) ?_; refine qf ?_; refine qp ?_; refine qt (T_load rfl rfl rfl rfl) ?_; refine qd ?_; refine qt (T_bnq rfl rfl rfl rfl rfl) ?_; refine qp ?_; refine qz ?_; refine qT ?_; refine qx ?_; refine qT ?_; refine qs ?_; refine qp ?_; refine qz ?_)
    exact hB _ _ _ _ _ rfl rfl fun w' hS => ⟨(), rfl, trivial, hS.sublist (List.nil_sublist _)⟩
  · by_cases h1 : x.pl.2 ≤ x.tm
    · by_cases h2 : x.pl.1 ≤ 18446744073709551614 - p.n
      · by_cases hK : x.K = 1
        · by_cases h3 : x.pl.2 < x.tm
          · obtain rfl : r = true := by rw [← hr]; simp [sndB, hK]; omega
            focus (refine qs ?_; (refine qe (E_boxa (cs := mgc x p) rfl) ?_; rintro _ _ ⟨b1, rfl, rfl⟩); refine qp ?_; refine qn ?_; refine qp ?_; refine qt (T_loads (ds := atc x.pl) rfl rfl rfl rfl rfl) ?_; (refine qe (E_alloca rfl at_zero) ?_; rintro _ _ ⟨b3, rfl, rfl⟩); (refine qw (E_storew (cs := atc (0, 0)) (ds := atc x.pl) rfl rfl rfl rfl (atc_one _) rfl) ?_; rintro _ _ rfl); refine qz ?_; refine qq ?_; refine qb ?_; refine qq ?_; refine qs ?_; (iterate 2 refine qp ?_; refine qt (T_load rfl rfl rfl rfl) ?_; refine qd ?_); refine qt (T_bnq rfl rfl rfl rfl rfl) ?_; refine qp ?_; refine qz ?_; refine qF ?_; refine qs ?_; (iterate 2 refine qp ?_; refine qt (T_load rfl rfl rfl rfl) ?_); refine qf ?_; refine qp ?_; refine qz ?_; refine qF ?_; refine qr ?_; (iterate 2 refine qp ?_; refine qt (T_load rfl rfl rfl rfl) ?_); refine qp ?_; refine qt (T_convf rfl rfl rfl rfl (by unfold fits; omega)) ?_; refine qt (T_subN (p := 18446744073709551614) (q := p.n) rfl rfl (by omega) (by unfold fits; omega)) ?_; refine qf ?_; refine qp ?_; refine qz ?_; refine qF ?_; refine qs ?_; refine qp ?_; refine qt (T_load rfl rfl rfl rfl) ?_; refine qd ?_; refine qp ?_; refine qz ?_; refine qT ?_; refine qs ?_; (iterate 2 refine qp ?_; refine qt (T_load rfl rfl rfl rfl) ?_); refine qd ?_; refine qp ?_; refine qz ?_)
            exact hB _ _ _ _ _ rfl rfl fun w' hS => ⟨(), rfl, trivial, hS.sublist (List.nil_sublist _)⟩
          · obtain rfl : r = false := by rw [← hr]; simp [sndB, hK]; omega
            focus (refine qs ?_; (refine qe (E_boxa (cs := mgc x p) rfl) ?_; rintro _ _ ⟨b1, rfl, rfl⟩); refine qp ?_; refine qn ?_; refine qp ?_; refine qt (T_loads (ds := atc x.pl) rfl rfl rfl rfl rfl) ?_; (refine qe (E_alloca rfl at_zero) ?_; rintro _ _ ⟨b3, rfl, rfl⟩); (refine qw (E_storew (cs := atc (0, 0)) (ds := atc x.pl) rfl rfl rfl rfl (atc_one _) rfl) ?_; rintro _ _ rfl); refine qz ?_; refine qq ?_; refine qb ?_; refine qq ?_; refine qs ?_; (iterate 2 refine qp ?_; refine qt (T_load rfl rfl rfl rfl) ?_; refine qd ?_); refine qt (T_bnq rfl rfl rfl rfl rfl) ?_; refine qp ?_; refine qz ?_; refine qF ?_; refine qs ?_; (iterate 2 refine qp ?_; refine qt (T_load rfl rfl rfl rfl) ?_); refine qf ?_; refine qp ?_; refine qz ?_; refine qF ?_; refine qr ?_; (iterate 2 refine qp ?_; refine qt (T_load rfl rfl rfl rfl) ?_); refine qp ?_; refine qt (T_convf rfl rfl rfl rfl (by unfold fits; omega)) ?_; refine qt (T_subN (p := 18446744073709551614) (q := p.n) rfl rfl (by omega) (by unfold fits; omega)) ?_; refine qf ?_; refine qp ?_; refine qz ?_; refine qF ?_; refine qs ?_; refine qp ?_; refine qt (T_load rfl rfl rfl rfl) ?_; refine qd ?_; refine qp ?_; refine qz ?_; refine qT ?_; refine qs ?_; (iterate 2 refine qp ?_; refine qt (T_load rfl rfl rfl rfl) ?_); refine qf ?_; refine qp ?_; refine qz ?_)
            exact hB _ _ _ _ _ rfl rfl fun w' hS => ⟨(), rfl, trivial, hS.sublist (List.nil_sublist _)⟩
        · by_cases hK7 : x.K = 7
          · obtain rfl : r = false := by rw [← hr]; simp [sndB, hK7]; omega
            focus (refine qs ?_; (refine qe (E_boxa (cs := mgc x p) rfl) ?_; rintro _ _ ⟨b1, rfl, rfl⟩); refine qp ?_; refine qn ?_; refine qp ?_; refine qt (T_loads (ds := atc x.pl) rfl rfl rfl rfl rfl) ?_; (refine qe (E_alloca rfl at_zero) ?_; rintro _ _ ⟨b3, rfl, rfl⟩); (refine qw (E_storew (cs := atc (0, 0)) (ds := atc x.pl) rfl rfl rfl rfl (atc_one _) rfl) ?_; rintro _ _ rfl); refine qz ?_; refine qq ?_; refine qb ?_; refine qq ?_; refine qs ?_; (iterate 2 refine qp ?_; refine qt (T_load rfl rfl rfl rfl) ?_; refine qd ?_); refine qt (T_bnq rfl rfl rfl rfl rfl) ?_; refine qp ?_; refine qz ?_; refine qF ?_; refine qs ?_; (iterate 2 refine qp ?_; refine qt (T_load rfl rfl rfl rfl) ?_); refine qf ?_; refine qp ?_; refine qz ?_; refine qF ?_; refine qr ?_; (iterate 2 refine qp ?_; refine qt (T_load rfl rfl rfl rfl) ?_); refine qp ?_; refine qt (T_convf rfl rfl rfl rfl (by unfold fits; omega)) ?_; refine qt (T_subN (p := 18446744073709551614) (q := p.n) rfl rfl (by omega) (by unfold fits; omega)) ?_; (iterate 2 refine qf ?_; refine qp ?_; refine qz ?_; refine qF ?_; refine qs ?_; refine qp ?_; refine qt (T_load rfl rfl rfl rfl) ?_); refine qd ?_; refine qp ?_; refine qz ?_; refine qT ?_; refine qs ?_; refine qp ?_; refine qt (T_load rfl rfl rfl rfl) ?_; refine qf ?_; refine qp ?_; refine qz ?_)
            exact hB _ _ _ _ _ rfl rfl fun w' hS => ⟨(), rfl, trivial, hS.sublist (List.nil_sublist _)⟩
          · obtain rfl : r = true := by rw [← hr]; simp [sndB, hK, hK7]; omega
            focus (refine qs ?_; (refine qe (E_boxa (cs := mgc x p) rfl) ?_; rintro _ _ ⟨b1, rfl, rfl⟩); refine qp ?_; refine qn ?_; refine qp ?_; refine qt (T_loads (ds := atc x.pl) rfl rfl rfl rfl rfl) ?_; (refine qe (E_alloca rfl at_zero) ?_; rintro _ _ ⟨b3, rfl, rfl⟩); (refine qw (E_storew (cs := atc (0, 0)) (ds := atc x.pl) rfl rfl rfl rfl (atc_one _) rfl) ?_; rintro _ _ rfl); refine qz ?_; refine qq ?_; refine qb ?_; refine qq ?_; refine qs ?_; (iterate 2 refine qp ?_; refine qt (T_load rfl rfl rfl rfl) ?_; refine qd ?_); refine qt (T_bnq rfl rfl rfl rfl rfl) ?_; refine qp ?_; refine qz ?_; refine qF ?_; refine qs ?_; (iterate 2 refine qp ?_; refine qt (T_load rfl rfl rfl rfl) ?_); refine qf ?_; refine qp ?_; refine qz ?_; refine qF ?_; refine qr ?_; (iterate 2 refine qp ?_; refine qt (T_load rfl rfl rfl rfl) ?_); refine qp ?_; refine qt (T_convf rfl rfl rfl rfl (by unfold fits; omega)) ?_; refine qt (T_subN (p := 18446744073709551614) (q := p.n) rfl rfl (by omega) (by unfold fits; omega)) ?_; (iterate 2 refine qf ?_; refine qp ?_; refine qz ?_; refine qF ?_; refine qs ?_; refine qp ?_; refine qt (T_load rfl rfl rfl rfl) ?_); refine qf ?_; refine qp ?_; refine qz ?_; refine qF ?_; refine qx ?_; refine RS_blk ?_; refine qs ?_; refine qp ?_; refine qz ?_)
            exact hB _ _ _ _ _ rfl rfl fun w' hS => ⟨(), rfl, trivial, hS.sublist (List.nil_sublist _)⟩
      · obtain rfl : r = false := by rw [← hr]; simp [sndB]; omega
        focus (refine qs ?_; (refine qe (E_boxa (cs := mgc x p) rfl) ?_; rintro _ _ ⟨b1, rfl, rfl⟩); refine qp ?_; refine qn ?_; refine qp ?_; refine qt (T_loads (ds := atc x.pl) rfl rfl rfl rfl rfl) ?_; (refine qe (E_alloca rfl at_zero) ?_; rintro _ _ ⟨b3, rfl, rfl⟩); (refine qw (E_storew (cs := atc (0, 0)) (ds := atc x.pl) rfl rfl rfl rfl (atc_one _) rfl) ?_; rintro _ _ rfl); refine qz ?_; refine qq ?_; refine qb ?_; refine qq ?_; refine qs ?_; (iterate 2 refine qp ?_; refine qt (T_load rfl rfl rfl rfl) ?_; refine qd ?_); refine qt (T_bnq rfl rfl rfl rfl rfl) ?_; refine qp ?_; refine qz ?_; refine qF ?_; refine qs ?_; (iterate 2 refine qp ?_; refine qt (T_load rfl rfl rfl rfl) ?_); refine qd ?_; refine qp ?_; refine qz ?_; refine qT ?_; refine qx ?_; refine qT ?_; refine qs ?_; refine qp ?_; refine qz ?_)
        exact hB _ _ _ _ _ rfl rfl fun w' hS => ⟨(), rfl, trivial, hS.sublist (List.nil_sublist _)⟩
    · obtain rfl : r = false := by rw [← hr]; simp [sndB]; omega
      focus (refine qs ?_; (refine qe (E_boxa (cs := mgc x p) rfl) ?_; rintro _ _ ⟨b1, rfl, rfl⟩); refine qp ?_; refine qn ?_; refine qp ?_; refine qt (T_loads (ds := atc x.pl) rfl rfl rfl rfl rfl) ?_; (refine qe (E_alloca rfl at_zero) ?_; rintro _ _ ⟨b3, rfl, rfl⟩); (refine qw (E_storew (cs := atc (0, 0)) (ds := atc x.pl) rfl rfl rfl rfl (atc_one _) rfl) ?_; rintro _ _ rfl); refine qz ?_; refine qq ?_; refine qb ?_; refine qq ?_; refine qs ?_; (iterate 2 refine qp ?_; refine qt (T_load rfl rfl rfl rfl) ?_; refine qd ?_); refine qt (T_bnq rfl rfl rfl rfl rfl) ?_; refine qp ?_; refine qz ?_; refine qF ?_; refine qs ?_; (iterate 2 refine qp ?_; refine qt (T_load rfl rfl rfl rfl) ?_); refine qd ?_; refine qp ?_; refine qz ?_; refine qT ?_; refine qx ?_; refine qT ?_; refine qs ?_; refine qp ?_; refine qz ?_)
      exact hB _ _ _ _ _ rfl rfl fun w' hS => ⟨(), rfl, trivial, hS.sublist (List.nil_sublist _)⟩
  · by_cases h1 : x.pl.2 ≤ x.tm
    · by_cases h2 : x.pl.1 ≤ 18446744073709551614 - p.n
      · by_cases hK : x.K = 1
        · by_cases h3 : x.pl.2 < x.tm
          · obtain rfl : r = true := by rw [← hr]; simp [sndB, hK]; omega
            focus (refine qs ?_; (refine qe (E_boxa (cs := mgc x p) rfl) ?_; rintro _ _ ⟨b1, rfl, rfl⟩); refine qp ?_; refine qn ?_; refine qp ?_; refine qt (T_loads (ds := atc x.pl) rfl rfl rfl rfl rfl) ?_; (refine qe (E_alloca rfl at_zero) ?_; rintro _ _ ⟨b3, rfl, rfl⟩); (refine qw (E_storew (cs := atc (0, 0)) (ds := atc x.pl) rfl rfl rfl rfl (atc_one _) rfl) ?_; rintro _ _ rfl); refine qz ?_; refine qq ?_; refine qb ?_; refine qq ?_; refine qs ?_; (iterate 2 refine qp ?_; refine qt (T_load rfl rfl rfl rfl) ?_; refine qf ?_); refine qt (T_bnq rfl rfl rfl rfl rfl) ?_; refine qp ?_; refine qz ?_; refine qF ?_; refine qs ?_; (iterate 2 refine qp ?_; refine qt (T_load rfl rfl rfl rfl) ?_); refine qf ?_; refine qp ?_; refine qz ?_; refine qF ?_; refine qr ?_; (iterate 2 refine qp ?_; refine qt (T_load rfl rfl rfl rfl) ?_); refine qp ?_; refine qt (T_convf rfl rfl rfl rfl (by unfold fits; omega)) ?_; refine qt (T_subN (p := 18446744073709551614) (q := p.n) rfl rfl (by omega) (by unfold fits; omega)) ?_; refine qf ?_; refine qp ?_; refine qz ?_; refine qF ?_; refine qs ?_; refine qp ?_; refine qt (T_load rfl rfl rfl rfl) ?_; refine qd ?_; refine qp ?_; refine qz ?_; refine qT ?_; refine qs ?_; (iterate 2 refine qp ?_; refine qt (T_load rfl rfl rfl rfl) ?_); refine qd ?_; refine qp ?_; refine qz ?_)
            exact hB _ _ _ _ _ rfl rfl fun w' hS => ⟨(), rfl, trivial, hS.sublist (List.nil_sublist _)⟩
          · obtain rfl : r = false := by rw [← hr]; simp [sndB, hK]; omega
            focus (refine qs ?_; (refine qe (E_boxa (cs := mgc x p) rfl) ?_; rintro _ _ ⟨b1, rfl, rfl⟩); refine qp ?_; refine qn ?_; refine qp ?_; refine qt (T_loads (ds := atc x.pl) rfl rfl rfl rfl rfl) ?_; (refine qe (E_alloca rfl at_zero) ?_; rintro _ _ ⟨b3, rfl, rfl⟩); (refine qw (E_storew (cs := atc (0, 0)) (ds := atc x.pl) rfl rfl rfl rfl (atc_one _) rfl) ?_; rintro _ _ rfl); refine qz ?_; refine qq ?_; refine qb ?_; refine qq ?_; refine qs ?_; (iterate 2 refine qp ?_; refine qt (T_load rfl rfl rfl rfl) ?_; refine qf ?_); refine qt (T_bnq rfl rfl rfl rfl rfl) ?_; refine qp ?_; refine qz ?_; refine qF ?_; refine qs ?_; (iterate 2 refine qp ?_; refine qt (T_load rfl rfl rfl rfl) ?_); refine qf ?_; refine qp ?_; refine qz ?_; refine qF ?_; refine qr ?_; (iterate 2 refine qp ?_; refine qt (T_load rfl rfl rfl rfl) ?_); refine qp ?_; refine qt (T_convf rfl rfl rfl rfl (by unfold fits; omega)) ?_; refine qt (T_subN (p := 18446744073709551614) (q := p.n) rfl rfl (by omega) (by unfold fits; omega)) ?_; refine qf ?_; refine qp ?_; refine qz ?_; refine qF ?_; refine qs ?_; refine qp ?_; refine qt (T_load rfl rfl rfl rfl) ?_; refine qd ?_; refine qp ?_; refine qz ?_; refine qT ?_; refine qs ?_; (iterate 2 refine qp ?_; refine qt (T_load rfl rfl rfl rfl) ?_); refine qf ?_; refine qp ?_; refine qz ?_)
            exact hB _ _ _ _ _ rfl rfl fun w' hS => ⟨(), rfl, trivial, hS.sublist (List.nil_sublist _)⟩
        · by_cases hK7 : x.K = 7
          · obtain rfl : r = true := by rw [← hr]; simp [sndB, hK7]; omega
            focus (refine qs ?_; (refine qe (E_boxa (cs := mgc x p) rfl) ?_; rintro _ _ ⟨b1, rfl, rfl⟩); refine qp ?_; refine qn ?_; refine qp ?_; refine qt (T_loads (ds := atc x.pl) rfl rfl rfl rfl rfl) ?_; (refine qe (E_alloca rfl at_zero) ?_; rintro _ _ ⟨b3, rfl, rfl⟩); (refine qw (E_storew (cs := atc (0, 0)) (ds := atc x.pl) rfl rfl rfl rfl (atc_one _) rfl) ?_; rintro _ _ rfl); refine qz ?_; refine qq ?_; refine qb ?_; refine qq ?_; refine qs ?_; (iterate 2 refine qp ?_; refine qt (T_load rfl rfl rfl rfl) ?_; refine qf ?_); refine qt (T_bnq rfl rfl rfl rfl rfl) ?_; refine qp ?_; refine qz ?_; refine qF ?_; refine qs ?_; (iterate 2 refine qp ?_; refine qt (T_load rfl rfl rfl rfl) ?_); refine qf ?_; refine qp ?_; refine qz ?_; refine qF ?_; refine qr ?_; (iterate 2 refine qp ?_; refine qt (T_load rfl rfl rfl rfl) ?_); refine qp ?_; refine qt (T_convf rfl rfl rfl rfl (by unfold fits; omega)) ?_; refine qt (T_subN (p := 18446744073709551614) (q := p.n) rfl rfl (by omega) (by unfold fits; omega)) ?_; (iterate 2 refine qf ?_; refine qp ?_; refine qz ?_; refine qF ?_; refine qs ?_; refine qp ?_; refine qt (T_load rfl rfl rfl rfl) ?_); refine qd ?_; refine qp ?_; refine qz ?_; refine qT ?_; refine qs ?_; refine qp ?_; refine qt (T_load rfl rfl rfl rfl) ?_; refine qd ?_; refine qp ?_; refine qz ?_)
            exact hB _ _ _ _ _ rfl rfl fun w' hS => ⟨(), rfl, trivial, hS.sublist (List.nil_sublist _)⟩
          · obtain rfl : r = true := by rw [← hr]; simp [sndB, hK, hK7]; omega
            focus (refine qs ?_; (refine qe (E_boxa (cs := mgc x p) rfl) ?_; rintro _ _ ⟨b1, rfl, rfl⟩); refine qp ?_; refine qn ?_; refine qp ?_; refine qt (T_loads (ds := atc x.pl) rfl rfl rfl rfl rfl) ?_; (refine qe (E_alloca rfl at_zero) ?_; rintro _ _ ⟨b3, rfl, rfl⟩); (refine qw (E_storew (cs := atc (0, 0)) (ds := atc x.pl) rfl rfl rfl rfl (atc_one _) rfl) ?_; rintro _ _ rfl); refine qz ?_; refine qq ?_; refine qb ?_; refine qq ?_; refine qs ?_; (iterate 2 refine qp ?_; refine qt (T_load rfl rfl rfl rfl) ?_; refine qf ?_); refine qt (T_bnq rfl rfl rfl rfl rfl) ?_; refine qp ?_; refine qz ?_; refine qF ?_; refine qs ?_; (iterate 2 refine qp ?_; refine qt (T_load rfl rfl rfl rfl) ?_); refine qf ?_; refine qp ?_; refine qz ?_; refine qF ?_; refine qr ?_; (iterate 2 refine qp ?_; refine qt (T_load rfl rfl rfl rfl) ?_); refine qp ?_; refine qt (T_convf rfl rfl rfl rfl (by unfold fits; omega)) ?_; refine qt (T_subN (p := 18446744073709551614) (q := p.n) rfl rfl (by omega) (by unfold fits; omega)) ?_; (iterate 2 refine qf ?_; refine qp ?_; refine qz ?_; refine qF ?_; refine qs ?_; refine qp ?_; refine qt (T_load rfl rfl rfl rfl) ?_); refine qf ?_; refine qp ?_; refine qz ?_; refine qF ?_; refine qx ?_; refine RS_blk ?_; refine qs ?_; refine qp ?_; refine qz ?_)
            exact hB _ _ _ _ _ rfl rfl fun w' hS => ⟨(), rfl, trivial, hS.sublist (List.nil_sublist _)⟩
      · obtain rfl : r = false := by rw [← hr]; simp [sndB]; omega
        focus (refine qs ?_; (refine qe (E_boxa (cs := mgc x p) rfl) ?_; rintro _ _ ⟨b1, rfl, rfl⟩); refine qp ?_; refine qn ?_; refine qp ?_; refine qt (T_loads (ds := atc x.pl) rfl rfl rfl rfl rfl) ?_; (refine qe (E_alloca rfl at_zero) ?_; rintro _ _ ⟨b3, rfl, rfl⟩); (refine qw (E_storew (cs := atc (0, 0)) (ds := atc x.pl) rfl rfl rfl rfl (atc_one _) rfl) ?_; rintro _ _ rfl); refine qz ?_; refine qq ?_; refine qb ?_; refine qq ?_; refine qs ?_; (iterate 2 refine qp ?_; refine qt (T_load rfl rfl rfl rfl) ?_; refine qf ?_); refine qt (T_bnq rfl rfl rfl rfl rfl) ?_; refine qp ?_; refine qz ?_; refine qF ?_; refine qs ?_; (iterate 2 refine qp ?_; refine qt (T_load rfl rfl rfl rfl) ?_); refine qf ?_; refine qp ?_; refine qz ?_; refine qF ?_; refine qr ?_; (iterate 2 refine qp ?_; refine qt (T_load rfl rfl rfl rfl) ?_); refine qp ?_; refine qt (T_convf rfl rfl rfl rfl (by unfold fits; omega)) ?_; refine qt (T_subN (p := 18446744073709551614) (q := p.n) rfl rfl (by omega) (by unfold fits; omega)) ?_; refine qd ?_; refine qp ?_; refine qz ?_; refine qT ?_; refine qs ?_; refine qp ?_; refine qz ?_)
        exact hB _ _ _ _ _ rfl rfl fun w' hS => ⟨(), rfl, trivial, hS.sublist (List.nil_sublist _)⟩
    · obtain rfl : r = false := by rw [← hr]; simp [sndB]; omega
      focus (refine qs ?_; (refine qe (E_boxa (cs := mgc x p) rfl) ?_; rintro _ _ ⟨b1, rfl, rfl⟩); refine qp ?_; refine qn ?_; refine qp ?_; refine qt (T_loads (ds := atc x.pl) rfl rfl rfl rfl rfl) ?_; (refine qe (E_alloca rfl at_zero) ?_; rintro _ _ ⟨b3, rfl, rfl⟩); (refine qw (E_storew (cs := atc (0, 0)) (ds := atc x.pl) rfl rfl rfl rfl (atc_one _) rfl) ?_; rintro _ _ rfl); refine qz ?_; refine qq ?_; refine qb ?_; refine qq ?_; refine qs ?_; (iterate 2 refine qp ?_; refine qt (T_load rfl rfl rfl rfl) ?_; refine qf ?_); refine qt (T_bnq rfl rfl rfl rfl rfl) ?_; refine qp ?_; refine qz ?_; refine qF ?_; refine qs ?_; (iterate 2 refine qp ?_; refine qt (T_load rfl rfl rfl rfl) ?_); refine qd ?_; refine qp ?_; refine qz ?_; refine qT ?_; refine qx ?_; refine qT ?_; refine qs ?_; refine qp ?_; refine qz ?_)
      exact hB _ _ _ _ _ rfl rfl fun w' hS => ⟨(), rfl, trivial, hS.sublist (List.nil_sublist _)⟩
end Go.Proofs.YtdeffdldifepkaaGreat
namespace Go.Proofs.YtdeffdldifepkaaGreat
open Go.RowKit
open Asn (pt row rb)
set_option linter.unusedVariables false
set_option linter.unusedSimpArgs false
--@use N

theorem all_no {l : List Bool} (i : Nat) (h : l[i]? = some false) : l.all id = false := by
  rw [Bool.eq_false_iff]
  intro h2
  have := List.all_eq_true.1 h2 false (List.mem_of_getElem? h)
  cases this
/-- what Check asks -/
def chkL (x : Ms) (n dn cn : Nat) : List Bool := [decide (0 < fldN x.K), decide (setN x &&& (127 - fldN x.K) = 0), decide (1 ≤ x.F) && decide (x.F ≤ 5), decide (1 ≤ x.T) && decide (x.T ≤ 5), decide (x.F ≠ x.T), decide (0 < x.tm), decide (x.tm ≤ 4611686018427387904), sndB x.K x.tm x.pl.1 x.pl.2 n, decide (n ≤ 8), decide (dn ≤ 65536), decide (cn ≤ 5), decide (n = 0) || decide (chkE x.pl x.es x.tm = 0), x.cf.all fun n => decide (1 ≤ n) && decide (n ≤ 255)]
theorem chkL_eq (x : Ms) (n dn cn : Nat) : chkL x n dn cn = [decide (0 < fldN x.K), decide (setN x &&& (127 - fldN x.K) = 0), decide (1 ≤ x.F) && decide (x.F ≤ 5), decide (1 ≤ x.T) && decide (x.T ≤ 5), decide (x.F ≠ x.T), decide (0 < x.tm), decide (x.tm ≤ 4611686018427387904), sndB x.K x.tm x.pl.1 x.pl.2 n, decide (n ≤ 8), decide (dn ≤ 65536), decide (cn ≤ 5), decide (n = 0) || decide (chkE x.pl x.es x.tm = 0), x.cf.all fun n => decide (1 ≤ n) && decide (n ≤ 255)] := rfl
theorem fld_lt (K : Int) : fldN K < 128 := by
  unfold fldN
  split
  · decide
  split
  · decide
  split
  · decide
  split
  · decide
  split <;> decide
theorem T_notm {P : Program} {n : Nat} {w0 : World} {M : Nat → Prop} {T : Slots} {H : List Asn} {dd : Option Tmp} {tt : TypeId} {pos : String} {af : Array Edge} {g : Option (Nat × Bool)} {x y : Operand} {t u : TypeId} {j : Int} {f : Nat} (hx : oget T x = some (.int .i64 127)) (hy : oget T y = some (.int .i64 j)) [hj : NatOf j f] (hf : f < 128) :
    Tk P n w0 M T H ⟨dd, .binOp .andNot t x y u, tt, pos, af, g⟩ (.int .i64 ((127 - f : Nat) : Int)) := by
  rw [hj.is] at hy
  exact T_arith hx hy ((by decide +kernel : ∀ f ∈ List.range 128, arith .andNot .i64 127 ((f : Nat) : Int) = some ((127 - f : Nat) : Int)) f (List.mem_range.2 hf))
set_option maxRecDepth 100000 in
set_option maxHeartbeats 4000000 in
theorem checkM_k (w : World) (x : Ms) (p : Mp) (h : MsR w x p) (r : Bool) (hr : (chkL x p.n p.dn p.cn).all id = r) :
    Gives Tryz.prog 45 [.agg (mgc x p).toArray] [] w (X := Unit) (fun _ => .int .i64 (if r = true then 0 else 230)) (fun _ => True) (fun _ => []) := by
  refine gives_S Tryz.func45 rfl Tryz.ntmps45 Tryz.results45 (by simp) (St.enter w) (fun B hB => ?_)
  have hsn : setN x < 128 := bits_lt _ 0 (setL_lt x) (by decide)
  have hfn := fld_lt x.K
  have hm := h.hm
  unfold maxLen at hm
  by_cases hf : 0 < fldN x.K
  rotate_left
  · obtain rfl : r = false := by rw [← hr]; exact all_no 0 (congrArg some (decide_eq_false hf))
    focus (refine qs ?_; (refine qe (E_boxa (cs := mgc x p) rfl) ?_; rintro _ _ ⟨b1, rfl, rfl⟩); refine qp ?_; refine qn ?_; refine qp ?_; refine qt (T_load rfl rfl rfl rfl) ?_; (refine qe (E_hv0 (f := 114) ⟨_, Tryz.func114, rfl, by kernel_rfl⟩ (fun w hS => fields_any w x.K) rfl rfl (fun _ => rfl)) ?_; rintro _ _ ⟨_, rfl, _, rfl⟩); refine qp ?_; refine qn ?_; refine qp ?_; refine qf ?_; refine qp ?_; (iterate 6 refine qk ?_); (iterate 3 refine qp ?_; refine qp ?_; (iterate 3 refine qk ?_)); (iterate 3 refine qk ?_; refine qk ?_; refine qp ?_; refine qp ?_; refine qk ?_); refine qk ?_; refine qp ?_; refine qp ?_; refine qn ?_; (iterate 3 refine qp ?_; refine qp ?_; (iterate 4 refine qk ?_)); refine qk ?_; refine qp ?_; refine qp ?_; refine qz ?_; refine qq ?_; refine qs ?_; refine qp ?_; refine qp ?_; (iterate 4 refine qk ?_); refine qp ?_; refine qz ?_; refine qF ?_; refine qx ?_; refine qs ?_; refine qp ?_; refine qp ?_; (iterate 5 refine qk ?_); refine qp ?_; refine qp ?_; refine qz ?_; refine qq ?_; refine qs ?_; refine qp ?_; refine qt (T_not rfl) ?_; refine qz ?_; refine qT ?_; refine qs ?_; refine qp ?_; refine qz ?_)
    exact hB _ _ _ _ _ rfl rfl fun w' hS => ⟨(), rfl, trivial, hS.sublist (List.nil_sublist _)⟩
  by_cases hs : setN x &&& (127 - fldN x.K) = 0
  rotate_left
  · obtain rfl : r = false := by rw [← hr]; exact all_no 1 (congrArg some (decide_eq_false hs))
    focus (refine qs ?_; (refine qe (E_boxa (cs := mgc x p) rfl) ?_; rintro _ _ ⟨b1, rfl, rfl⟩); refine qp ?_; refine qn ?_; refine qp ?_; refine qt (T_load rfl rfl rfl rfl) ?_; (refine qe (E_hv0 (f := 114) ⟨_, Tryz.func114, rfl, by kernel_rfl⟩ (fun w hS => fields_any w x.K) rfl rfl (fun _ => rfl)) ?_; rintro _ _ ⟨_, rfl, _, rfl⟩); refine qp ?_; refine qn ?_; refine qp ?_; refine qd ?_; refine qd ?_; refine qt (T_loads (ds := mgc x p) rfl rfl rfl rfl rfl) ?_; ((refine qe (E_hv0 (f := 115) ⟨_, Tryz.func115, rfl, by kernel_rfl⟩ (fun w hS => set_any w x p (h.keep hS.kpO)) rfl rfl (fun _ => rfl)) ?_; rintro _ _ ⟨_, rfl, _, rfl⟩)); refine qp ?_; refine qt (T_notm (f := fldN x.K) rfl rfl hfn) ?_; refine qt (T_andN (p := setN x) (q := 127 - fldN x.K) (r := setN x &&& (127 - fldN x.K)) rfl rfl rfl hsn (by omega)) ?_; refine qf ?_; (iterate 3 refine qp ?_; refine qp ?_; (iterate 3 refine qk ?_)); (iterate 3 refine qk ?_; refine qk ?_; refine qp ?_; refine qp ?_; refine qk ?_); refine qk ?_; refine qp ?_; refine qp ?_; refine qn ?_; (iterate 3 refine qp ?_; refine qp ?_; (iterate 4 refine qk ?_)); refine qk ?_; refine qp ?_; refine qp ?_; refine qz ?_; refine qq ?_; refine qs ?_; refine qp ?_; refine qp ?_; (iterate 4 refine qk ?_); refine qp ?_; refine qz ?_; refine qF ?_; refine qx ?_; refine qs ?_; refine qp ?_; refine qp ?_; (iterate 5 refine qk ?_); refine qp ?_; refine qp ?_; refine qz ?_; refine qq ?_; refine qs ?_; refine qp ?_; refine qt (T_not rfl) ?_; refine qz ?_; refine qT ?_; refine qs ?_; refine qp ?_; refine qz ?_)
    exact hB _ _ _ _ _ rfl rfl fun w' hS => ⟨(), rfl, trivial, hS.sublist (List.nil_sublist _)⟩
  cases hF : (decide (1 ≤ x.F) && decide (x.F ≤ 5))
  · obtain rfl : r = false := by rw [← hr]; exact all_no 2 (congrArg some hF)
    focus (refine qs ?_; (refine qe (E_boxa (cs := mgc x p) rfl) ?_; rintro _ _ ⟨b1, rfl, rfl⟩); refine qp ?_; refine qn ?_; refine qp ?_; refine qt (T_load rfl rfl rfl rfl) ?_; (refine qe (E_hv0 (f := 114) ⟨_, Tryz.func114, rfl, by kernel_rfl⟩ (fun w hS => fields_any w x.K) rfl rfl (fun _ => rfl)) ?_; rintro _ _ ⟨_, rfl, _, rfl⟩); refine qp ?_; refine qn ?_; refine qp ?_; refine qd ?_; refine qd ?_; refine qt (T_loads (ds := mgc x p) rfl rfl rfl rfl rfl) ?_; ((refine qe (E_hv0 (f := 115) ⟨_, Tryz.func115, rfl, by kernel_rfl⟩ (fun w hS => set_any w x p (h.keep hS.kpO)) rfl rfl (fun _ => rfl)) ?_; rintro _ _ ⟨_, rfl, _, rfl⟩)); refine qp ?_; refine qt (T_notm (f := fldN x.K) rfl rfl hfn) ?_; refine qt (T_andN (p := setN x) (q := 127 - fldN x.K) (r := setN x &&& (127 - fldN x.K)) rfl rfl rfl hsn (by omega)) ?_; (iterate 3 refine qd ?_); refine qp ?_; refine qt (T_load rfl rfl rfl rfl) ?_; (refine qe (E_hv0 (f := 116) ⟨_, Tryz.func116, rfl, by kernel_rfl⟩ (fun w hS => server_any w x.F _ hF) rfl rfl (fun _ => rfl)) ?_; rintro _ _ ⟨_, rfl, _, rfl⟩); (iterate 2 refine qp ?_; refine qp ?_; (iterate 3 refine qk ?_)); (iterate 3 refine qk ?_; refine qk ?_; refine qp ?_; refine qp ?_; refine qk ?_); refine qk ?_; refine qp ?_; refine qp ?_; refine qn ?_; (iterate 3 refine qp ?_; refine qp ?_; (iterate 4 refine qk ?_)); refine qk ?_; refine qp ?_; refine qp ?_; refine qz ?_; refine qq ?_; refine qs ?_; refine qp ?_; refine qp ?_; (iterate 4 refine qk ?_); refine qp ?_; refine qz ?_; refine qF ?_; refine qx ?_; refine qs ?_; refine qp ?_; refine qp ?_; (iterate 5 refine qk ?_); refine qp ?_; refine qp ?_; refine qz ?_; refine qq ?_; refine qs ?_; refine qp ?_; refine qt (T_not rfl) ?_; refine qz ?_; refine qT ?_; refine qs ?_; refine qp ?_; refine qz ?_)
    exact hB _ _ _ _ _ rfl rfl fun w' hS => ⟨(), rfl, trivial, hS.sublist (List.nil_sublist _)⟩
  cases hT : (decide (1 ≤ x.T) && decide (x.T ≤ 5))
  · obtain rfl : r = false := by rw [← hr]; exact all_no 3 (congrArg some hT)
    focus (refine qs ?_; (refine qe (E_boxa (cs := mgc x p) rfl) ?_; rintro _ _ ⟨b1, rfl, rfl⟩); refine qp ?_; refine qn ?_; refine qp ?_; refine qt (T_load rfl rfl rfl rfl) ?_; (refine qe (E_hv0 (f := 114) ⟨_, Tryz.func114, rfl, by kernel_rfl⟩ (fun w hS => fields_any w x.K) rfl rfl (fun _ => rfl)) ?_; rintro _ _ ⟨_, rfl, _, rfl⟩); refine qp ?_; refine qn ?_; refine qp ?_; refine qd ?_; refine qd ?_; refine qt (T_loads (ds := mgc x p) rfl rfl rfl rfl rfl) ?_; ((refine qe (E_hv0 (f := 115) ⟨_, Tryz.func115, rfl, by kernel_rfl⟩ (fun w hS => set_any w x p (h.keep hS.kpO)) rfl rfl (fun _ => rfl)) ?_; rintro _ _ ⟨_, rfl, _, rfl⟩)); refine qp ?_; refine qt (T_notm (f := fldN x.K) rfl rfl hfn) ?_; refine qt (T_andN (p := setN x) (q := 127 - fldN x.K) (r := setN x &&& (127 - fldN x.K)) rfl rfl rfl hsn (by omega)) ?_; (iterate 3 refine qd ?_); refine qp ?_; refine qt (T_load rfl rfl rfl rfl) ?_; (refine qe (E_hv0 (f := 116) ⟨_, Tryz.func116, rfl, by kernel_rfl⟩ (fun w hS => server_any w x.F _ hF) rfl rfl (fun _ => rfl)) ?_; rintro _ _ ⟨_, rfl, _, rfl⟩); refine qd ?_; refine qd ?_; refine qp ?_; refine qt (T_load rfl rfl rfl rfl) ?_; (refine qe (E_hv0 (f := 116) ⟨_, Tryz.func116, rfl, by kernel_rfl⟩ (fun w hS => server_any w x.T _ hT) rfl rfl (fun _ => rfl)) ?_; rintro _ _ ⟨_, rfl, _, rfl⟩); refine qp ?_; refine qp ?_; (iterate 5 refine qk ?_); (iterate 2 refine qp ?_; refine qp ?_; (iterate 3 refine qk ?_)); refine qp ?_; refine qp ?_; refine qk ?_; refine qk ?_; refine qp ?_; refine qp ?_; refine qn ?_; (iterate 3 refine qp ?_; refine qp ?_; (iterate 4 refine qk ?_)); refine qk ?_; refine qp ?_; refine qp ?_; refine qz ?_; refine qq ?_; refine qs ?_; refine qp ?_; refine qp ?_; (iterate 4 refine qk ?_); refine qp ?_; refine qz ?_; refine qF ?_; refine qx ?_; refine qs ?_; refine qp ?_; refine qp ?_; (iterate 5 refine qk ?_); refine qp ?_; refine qp ?_; refine qz ?_; refine qq ?_; refine qs ?_; refine qp ?_; refine qt (T_not rfl) ?_; refine qz ?_; refine qT ?_; refine qs ?_; refine qp ?_; refine qz ?_)
    exact hB _ _ _ _ _ rfl rfl fun w' hS => ⟨(), rfl, trivial, hS.sublist (List.nil_sublist _)⟩
  by_cases hFT : x.F ≠ x.T
  rotate_left
  · obtain rfl : r = false := by rw [← hr]; exact all_no 4 (congrArg some (decide_eq_false hFT))
    focus (refine qs ?_; (refine qe (E_boxa (cs := mgc x p) rfl) ?_; rintro _ _ ⟨b1, rfl, rfl⟩); refine qp ?_; refine qn ?_; refine qp ?_; refine qt (T_load rfl rfl rfl rfl) ?_; (refine qe (E_hv0 (f := 114) ⟨_, Tryz.func114, rfl, by kernel_rfl⟩ (fun w hS => fields_any w x.K) rfl rfl (fun _ => rfl)) ?_; rintro _ _ ⟨_, rfl, _, rfl⟩); refine qp ?_; refine qn ?_; refine qp ?_; refine qd ?_; refine qd ?_; refine qt (T_loads (ds := mgc x p) rfl rfl rfl rfl rfl) ?_; ((refine qe (E_hv0 (f := 115) ⟨_, Tryz.func115, rfl, by kernel_rfl⟩ (fun w hS => set_any w x p (h.keep hS.kpO)) rfl rfl (fun _ => rfl)) ?_; rintro _ _ ⟨_, rfl, _, rfl⟩)); refine qp ?_; refine qt (T_notm (f := fldN x.K) rfl rfl hfn) ?_; refine qt (T_andN (p := setN x) (q := 127 - fldN x.K) (r := setN x &&& (127 - fldN x.K)) rfl rfl rfl hsn (by omega)) ?_; (iterate 3 refine qd ?_); refine qp ?_; refine qt (T_load rfl rfl rfl rfl) ?_; (refine qe (E_hv0 (f := 116) ⟨_, Tryz.func116, rfl, by kernel_rfl⟩ (fun w hS => server_any w x.F _ hF) rfl rfl (fun _ => rfl)) ?_; rintro _ _ ⟨_, rfl, _, rfl⟩); refine qd ?_; refine qd ?_; refine qp ?_; refine qt (T_load rfl rfl rfl rfl) ?_; (refine qe (E_hv0 (f := 116) ⟨_, Tryz.func116, rfl, by kernel_rfl⟩ (fun w hS => server_any w x.T _ hT) rfl rfl (fun _ => rfl)) ?_; rintro _ _ ⟨_, rfl, _, rfl⟩); refine qd ?_; refine qd ?_; (iterate 2 refine qp ?_; refine qt (T_load rfl rfl rfl rfl) ?_); refine qf ?_; (iterate 2 refine qp ?_; refine qp ?_; (iterate 3 refine qk ?_)); refine qp ?_; refine qp ?_; refine qk ?_; refine qk ?_; refine qp ?_; refine qp ?_; refine qn ?_; (iterate 3 refine qp ?_; refine qp ?_; (iterate 4 refine qk ?_)); refine qk ?_; refine qp ?_; refine qp ?_; refine qz ?_; refine qq ?_; refine qs ?_; refine qp ?_; refine qp ?_; (iterate 4 refine qk ?_); refine qp ?_; refine qz ?_; refine qF ?_; refine qx ?_; refine qs ?_; refine qp ?_; refine qp ?_; (iterate 5 refine qk ?_); refine qp ?_; refine qp ?_; refine qz ?_; refine qq ?_; refine qs ?_; refine qp ?_; refine qt (T_not rfl) ?_; refine qz ?_; refine qT ?_; refine qs ?_; refine qp ?_; refine qz ?_)
    exact hB _ _ _ _ _ rfl rfl fun w' hS => ⟨(), rfl, trivial, hS.sublist (List.nil_sublist _)⟩
  by_cases h0 : 0 < x.tm
  rotate_left
  · obtain rfl : r = false := by rw [← hr]; exact all_no 5 (congrArg some (decide_eq_false h0))
    focus (refine qs ?_; (refine qe (E_boxa (cs := mgc x p) rfl) ?_; rintro _ _ ⟨b1, rfl, rfl⟩); refine qp ?_; refine qn ?_; refine qp ?_; refine qt (T_load rfl rfl rfl rfl) ?_; (refine qe (E_hv0 (f := 114) ⟨_, Tryz.func114, rfl, by kernel_rfl⟩ (fun w hS => fields_any w x.K) rfl rfl (fun _ => rfl)) ?_; rintro _ _ ⟨_, rfl, _, rfl⟩); refine qp ?_; refine qn ?_; refine qp ?_; refine qd ?_; refine qd ?_; refine qt (T_loads (ds := mgc x p) rfl rfl rfl rfl rfl) ?_; ((refine qe (E_hv0 (f := 115) ⟨_, Tryz.func115, rfl, by kernel_rfl⟩ (fun w hS => set_any w x p (h.keep hS.kpO)) rfl rfl (fun _ => rfl)) ?_; rintro _ _ ⟨_, rfl, _, rfl⟩)); refine qp ?_; refine qt (T_notm (f := fldN x.K) rfl rfl hfn) ?_; refine qt (T_andN (p := setN x) (q := 127 - fldN x.K) (r := setN x &&& (127 - fldN x.K)) rfl rfl rfl hsn (by omega)) ?_; (iterate 3 refine qd ?_); refine qp ?_; refine qt (T_load rfl rfl rfl rfl) ?_; (refine qe (E_hv0 (f := 116) ⟨_, Tryz.func116, rfl, by kernel_rfl⟩ (fun w hS => server_any w x.F _ hF) rfl rfl (fun _ => rfl)) ?_; rintro _ _ ⟨_, rfl, _, rfl⟩); refine qd ?_; refine qd ?_; refine qp ?_; refine qt (T_load rfl rfl rfl rfl) ?_; (refine qe (E_hv0 (f := 116) ⟨_, Tryz.func116, rfl, by kernel_rfl⟩ (fun w hS => server_any w x.T _ hT) rfl rfl (fun _ => rfl)) ?_; rintro _ _ ⟨_, rfl, _, rfl⟩); refine qd ?_; refine qd ?_; (iterate 2 refine qp ?_; refine qt (T_load rfl rfl rfl rfl) ?_); (iterate 3 refine qd ?_); refine qp ?_; refine qt (T_load rfl rfl rfl rfl) ?_; refine qf ?_; refine qp ?_; refine qp ?_; (iterate 3 refine qk ?_); refine qp ?_; refine qp ?_; refine qk ?_; refine qk ?_; refine qp ?_; refine qp ?_; refine qn ?_; (iterate 3 refine qp ?_; refine qp ?_; (iterate 4 refine qk ?_)); refine qk ?_; refine qp ?_; refine qp ?_; refine qz ?_; refine qq ?_; refine qs ?_; refine qp ?_; refine qp ?_; (iterate 4 refine qk ?_); refine qp ?_; refine qz ?_; refine qF ?_; refine qx ?_; refine qs ?_; refine qp ?_; refine qp ?_; (iterate 5 refine qk ?_); refine qp ?_; refine qp ?_; refine qz ?_; refine qq ?_; refine qs ?_; refine qp ?_; refine qt (T_not rfl) ?_; refine qz ?_; refine qT ?_; refine qs ?_; refine qp ?_; refine qz ?_)
    exact hB _ _ _ _ _ rfl rfl fun w' hS => ⟨(), rfl, trivial, hS.sublist (List.nil_sublist _)⟩
  by_cases h62 : x.tm ≤ 4611686018427387904
  rotate_left
  · obtain rfl : r = false := by rw [← hr]; exact all_no 6 (congrArg some (decide_eq_false h62))
    focus (refine qs ?_; (refine qe (E_boxa (cs := mgc x p) rfl) ?_; rintro _ _ ⟨b1, rfl, rfl⟩); refine qp ?_; refine qn ?_; refine qp ?_; refine qt (T_load rfl rfl rfl rfl) ?_; (refine qe (E_hv0 (f := 114) ⟨_, Tryz.func114, rfl, by kernel_rfl⟩ (fun w hS => fields_any w x.K) rfl rfl (fun _ => rfl)) ?_; rintro _ _ ⟨_, rfl, _, rfl⟩); refine qp ?_; refine qn ?_; refine qp ?_; refine qd ?_; refine qd ?_; refine qt (T_loads (ds := mgc x p) rfl rfl rfl rfl rfl) ?_; ((refine qe (E_hv0 (f := 115) ⟨_, Tryz.func115, rfl, by kernel_rfl⟩ (fun w hS => set_any w x p (h.keep hS.kpO)) rfl rfl (fun _ => rfl)) ?_; rintro _ _ ⟨_, rfl, _, rfl⟩)); refine qp ?_; refine qt (T_notm (f := fldN x.K) rfl rfl hfn) ?_; refine qt (T_andN (p := setN x) (q := 127 - fldN x.K) (r := setN x &&& (127 - fldN x.K)) rfl rfl rfl hsn (by omega)) ?_; (iterate 3 refine qd ?_); refine qp ?_; refine qt (T_load rfl rfl rfl rfl) ?_; (refine qe (E_hv0 (f := 116) ⟨_, Tryz.func116, rfl, by kernel_rfl⟩ (fun w hS => server_any w x.F _ hF) rfl rfl (fun _ => rfl)) ?_; rintro _ _ ⟨_, rfl, _, rfl⟩); refine qd ?_; refine qd ?_; refine qp ?_; refine qt (T_load rfl rfl rfl rfl) ?_; (refine qe (E_hv0 (f := 116) ⟨_, Tryz.func116, rfl, by kernel_rfl⟩ (fun w hS => server_any w x.T _ hT) rfl rfl (fun _ => rfl)) ?_; rintro _ _ ⟨_, rfl, _, rfl⟩); refine qd ?_; refine qd ?_; (iterate 2 refine qp ?_; refine qt (T_load rfl rfl rfl rfl) ?_); (iterate 2 (iterate 3 refine qd ?_); refine qp ?_; refine qt (T_load rfl rfl rfl rfl) ?_); refine qf ?_; refine qp ?_; refine qp ?_; refine qk ?_; refine qk ?_; refine qp ?_; refine qp ?_; refine qn ?_; (iterate 3 refine qp ?_; refine qp ?_; (iterate 4 refine qk ?_)); refine qk ?_; refine qp ?_; refine qp ?_; refine qz ?_; refine qq ?_; refine qs ?_; refine qp ?_; refine qp ?_; (iterate 4 refine qk ?_); refine qp ?_; refine qz ?_; refine qF ?_; refine qx ?_; refine qs ?_; refine qp ?_; refine qp ?_; (iterate 5 refine qk ?_); refine qp ?_; refine qp ?_; refine qz ?_; refine qq ?_; refine qs ?_; refine qp ?_; refine qt (T_not rfl) ?_; refine qz ?_; refine qT ?_; refine qs ?_; refine qp ?_; refine qz ?_)
    exact hB _ _ _ _ _ rfl rfl fun w' hS => ⟨(), rfl, trivial, hS.sublist (List.nil_sublist _)⟩
  cases hso : sndB x.K x.tm x.pl.1 x.pl.2 p.n
  · obtain rfl : r = false := by rw [← hr]; exact all_no 7 (congrArg some hso)
    focus (refine qs ?_; (refine qe (E_boxa (cs := mgc x p) rfl) ?_; rintro _ _ ⟨b1, rfl, rfl⟩); refine qp ?_; refine qn ?_; refine qp ?_; refine qt (T_load rfl rfl rfl rfl) ?_; (refine qe (E_hv0 (f := 114) ⟨_, Tryz.func114, rfl, by kernel_rfl⟩ (fun w hS => fields_any w x.K) rfl rfl (fun _ => rfl)) ?_; rintro _ _ ⟨_, rfl, _, rfl⟩); refine qp ?_; refine qn ?_; refine qp ?_; refine qd ?_; refine qd ?_; refine qt (T_loads (ds := mgc x p) rfl rfl rfl rfl rfl) ?_; ((refine qe (E_hv0 (f := 115) ⟨_, Tryz.func115, rfl, by kernel_rfl⟩ (fun w hS => set_any w x p (h.keep hS.kpO)) rfl rfl (fun _ => rfl)) ?_; rintro _ _ ⟨_, rfl, _, rfl⟩)); refine qp ?_; refine qt (T_notm (f := fldN x.K) rfl rfl hfn) ?_; refine qt (T_andN (p := setN x) (q := 127 - fldN x.K) (r := setN x &&& (127 - fldN x.K)) rfl rfl rfl hsn (by omega)) ?_; (iterate 3 refine qd ?_); refine qp ?_; refine qt (T_load rfl rfl rfl rfl) ?_; (refine qe (E_hv0 (f := 116) ⟨_, Tryz.func116, rfl, by kernel_rfl⟩ (fun w hS => server_any w x.F _ hF) rfl rfl (fun _ => rfl)) ?_; rintro _ _ ⟨_, rfl, _, rfl⟩); refine qd ?_; refine qd ?_; refine qp ?_; refine qt (T_load rfl rfl rfl rfl) ?_; (refine qe (E_hv0 (f := 116) ⟨_, Tryz.func116, rfl, by kernel_rfl⟩ (fun w hS => server_any w x.T _ hT) rfl rfl (fun _ => rfl)) ?_; rintro _ _ ⟨_, rfl, _, rfl⟩); refine qd ?_; refine qd ?_; (iterate 2 refine qp ?_; refine qt (T_load rfl rfl rfl rfl) ?_); (iterate 2 (iterate 3 refine qd ?_); refine qp ?_; refine qt (T_load rfl rfl rfl rfl) ?_); (iterate 3 refine qd ?_); refine qt (T_loads (ds := mgc x p) rfl rfl rfl rfl rfl) ?_; (refine qe (E_hv0 (f := 117) ⟨_, Tryz.func117, rfl, by kernel_rfl⟩ (fun w hS => sound_k w x p (h.keep hS.kpO) _ hso) rfl rfl (fun _ => rfl)) ?_; rintro _ _ ⟨_, rfl, _, rfl⟩); refine qp ?_; refine qp ?_; refine qn ?_; (iterate 3 refine qp ?_; refine qp ?_; (iterate 4 refine qk ?_)); refine qk ?_; refine qp ?_; refine qp ?_; refine qz ?_; refine qq ?_; refine qs ?_; refine qp ?_; refine qp ?_; (iterate 4 refine qk ?_); refine qp ?_; refine qz ?_; refine qF ?_; refine qx ?_; refine qs ?_; refine qp ?_; refine qp ?_; (iterate 5 refine qk ?_); refine qp ?_; refine qp ?_; refine qz ?_; refine qq ?_; refine qs ?_; refine qp ?_; refine qt (T_not rfl) ?_; refine qz ?_; refine qT ?_; refine qs ?_; refine qp ?_; refine qz ?_)
    exact hB _ _ _ _ _ rfl rfl fun w' hS => ⟨(), rfl, trivial, hS.sublist (List.nil_sublist _)⟩
  by_cases hn8 : p.n ≤ 8
  rotate_left
  · obtain rfl : r = false := by rw [← hr]; exact all_no 8 (congrArg some (decide_eq_false hn8))
    focus (refine qs ?_; (refine qe (E_boxa (cs := mgc x p) rfl) ?_; rintro _ _ ⟨b1, rfl, rfl⟩); refine qp ?_; refine qn ?_; refine qp ?_; refine qt (T_load rfl rfl rfl rfl) ?_; (refine qe (E_hv0 (f := 114) ⟨_, Tryz.func114, rfl, by kernel_rfl⟩ (fun w hS => fields_any w x.K) rfl rfl (fun _ => rfl)) ?_; rintro _ _ ⟨_, rfl, _, rfl⟩); refine qp ?_; refine qn ?_; refine qp ?_; refine qd ?_; refine qd ?_; refine qt (T_loads (ds := mgc x p) rfl rfl rfl rfl rfl) ?_; ((refine qe (E_hv0 (f := 115) ⟨_, Tryz.func115, rfl, by kernel_rfl⟩ (fun w hS => set_any w x p (h.keep hS.kpO)) rfl rfl (fun _ => rfl)) ?_; rintro _ _ ⟨_, rfl, _, rfl⟩)); refine qp ?_; refine qt (T_notm (f := fldN x.K) rfl rfl hfn) ?_; refine qt (T_andN (p := setN x) (q := 127 - fldN x.K) (r := setN x &&& (127 - fldN x.K)) rfl rfl rfl hsn (by omega)) ?_; (iterate 3 refine qd ?_); refine qp ?_; refine qt (T_load rfl rfl rfl rfl) ?_; (refine qe (E_hv0 (f := 116) ⟨_, Tryz.func116, rfl, by kernel_rfl⟩ (fun w hS => server_any w x.F _ hF) rfl rfl (fun _ => rfl)) ?_; rintro _ _ ⟨_, rfl, _, rfl⟩); refine qd ?_; refine qd ?_; refine qp ?_; refine qt (T_load rfl rfl rfl rfl) ?_; (refine qe (E_hv0 (f := 116) ⟨_, Tryz.func116, rfl, by kernel_rfl⟩ (fun w hS => server_any w x.T _ hT) rfl rfl (fun _ => rfl)) ?_; rintro _ _ ⟨_, rfl, _, rfl⟩); refine qd ?_; refine qd ?_; (iterate 2 refine qp ?_; refine qt (T_load rfl rfl rfl rfl) ?_); (iterate 2 (iterate 3 refine qd ?_); refine qp ?_; refine qt (T_load rfl rfl rfl rfl) ?_); (iterate 3 refine qd ?_); refine qt (T_loads (ds := mgc x p) rfl rfl rfl rfl rfl) ?_; (refine qe (E_hv0 (f := 117) ⟨_, Tryz.func117, rfl, by kernel_rfl⟩ (fun w hS => sound_k w x p (h.keep hS.kpO) _ hso) rfl rfl (fun _ => rfl)) ?_; rintro _ _ ⟨_, rfl, _, rfl⟩); refine qd ?_; refine qd ?_; refine qn ?_; refine qd ?_; refine qd ?_; refine qp ?_; refine qt (T_load rfl rfl rfl rfl) ?_; refine qp ?_; refine qf ?_; (iterate 2 refine qp ?_; refine qp ?_; (iterate 4 refine qk ?_)); refine qk ?_; refine qp ?_; refine qp ?_; refine qz ?_; refine qq ?_; refine qs ?_; refine qp ?_; refine qp ?_; (iterate 4 refine qk ?_); refine qp ?_; refine qz ?_; refine qF ?_; refine qx ?_; refine qs ?_; refine qp ?_; refine qp ?_; (iterate 5 refine qk ?_); refine qp ?_; refine qp ?_; refine qz ?_; refine qq ?_; refine qs ?_; refine qp ?_; refine qt (T_not rfl) ?_; refine qz ?_; refine qT ?_; refine qs ?_; refine qp ?_; refine qz ?_)
    exact hB _ _ _ _ _ rfl rfl fun w' hS => ⟨(), rfl, trivial, hS.sublist (List.nil_sublist _)⟩
  by_cases hd6 : p.dn ≤ 65536
  rotate_left
  · obtain rfl : r = false := by rw [← hr]; exact all_no 9 (congrArg some (decide_eq_false hd6))
    focus (refine qs ?_; (refine qe (E_boxa (cs := mgc x p) rfl) ?_; rintro _ _ ⟨b1, rfl, rfl⟩); refine qp ?_; refine qn ?_; refine qp ?_; refine qt (T_load rfl rfl rfl rfl) ?_; (refine qe (E_hv0 (f := 114) ⟨_, Tryz.func114, rfl, by kernel_rfl⟩ (fun w hS => fields_any w x.K) rfl rfl (fun _ => rfl)) ?_; rintro _ _ ⟨_, rfl, _, rfl⟩); refine qp ?_; refine qn ?_; refine qp ?_; refine qd ?_; refine qd ?_; refine qt (T_loads (ds := mgc x p) rfl rfl rfl rfl rfl) ?_; ((refine qe (E_hv0 (f := 115) ⟨_, Tryz.func115, rfl, by kernel_rfl⟩ (fun w hS => set_any w x p (h.keep hS.kpO)) rfl rfl (fun _ => rfl)) ?_; rintro _ _ ⟨_, rfl, _, rfl⟩)); refine qp ?_; refine qt (T_notm (f := fldN x.K) rfl rfl hfn) ?_; refine qt (T_andN (p := setN x) (q := 127 - fldN x.K) (r := setN x &&& (127 - fldN x.K)) rfl rfl rfl hsn (by omega)) ?_; (iterate 3 refine qd ?_); refine qp ?_; refine qt (T_load rfl rfl rfl rfl) ?_; (refine qe (E_hv0 (f := 116) ⟨_, Tryz.func116, rfl, by kernel_rfl⟩ (fun w hS => server_any w x.F _ hF) rfl rfl (fun _ => rfl)) ?_; rintro _ _ ⟨_, rfl, _, rfl⟩); refine qd ?_; refine qd ?_; refine qp ?_; refine qt (T_load rfl rfl rfl rfl) ?_; (refine qe (E_hv0 (f := 116) ⟨_, Tryz.func116, rfl, by kernel_rfl⟩ (fun w hS => server_any w x.T _ hT) rfl rfl (fun _ => rfl)) ?_; rintro _ _ ⟨_, rfl, _, rfl⟩); refine qd ?_; refine qd ?_; (iterate 2 refine qp ?_; refine qt (T_load rfl rfl rfl rfl) ?_); (iterate 2 (iterate 3 refine qd ?_); refine qp ?_; refine qt (T_load rfl rfl rfl rfl) ?_); (iterate 3 refine qd ?_); refine qt (T_loads (ds := mgc x p) rfl rfl rfl rfl rfl) ?_; (refine qe (E_hv0 (f := 117) ⟨_, Tryz.func117, rfl, by kernel_rfl⟩ (fun w hS => sound_k w x p (h.keep hS.kpO) _ hso) rfl rfl (fun _ => rfl)) ?_; rintro _ _ ⟨_, rfl, _, rfl⟩); refine qd ?_; refine qd ?_; refine qn ?_; refine qd ?_; refine qd ?_; refine qp ?_; refine qt (T_load rfl rfl rfl rfl) ?_; refine qp ?_; (iterate 3 refine qd ?_); refine qp ?_; refine qt (T_load rfl rfl rfl rfl) ?_; refine qp ?_; refine qf ?_; refine qp ?_; refine qp ?_; (iterate 5 refine qk ?_); refine qp ?_; refine qp ?_; refine qz ?_; refine qq ?_; refine qs ?_; refine qp ?_; refine qp ?_; (iterate 4 refine qk ?_); refine qp ?_; refine qz ?_; refine qF ?_; refine qx ?_; refine qs ?_; refine qp ?_; refine qp ?_; (iterate 5 refine qk ?_); refine qp ?_; refine qp ?_; refine qz ?_; refine qq ?_; refine qs ?_; refine qp ?_; refine qt (T_not rfl) ?_; refine qz ?_; refine qT ?_; refine qs ?_; refine qp ?_; refine qz ?_)
    exact hB _ _ _ _ _ rfl rfl fun w' hS => ⟨(), rfl, trivial, hS.sublist (List.nil_sublist _)⟩
  by_cases hc5 : p.cn ≤ 5
  rotate_left
  · obtain rfl : r = false := by rw [← hr]; exact all_no 10 (congrArg some (decide_eq_false hc5))
    focus (refine qs ?_; (refine qe (E_boxa (cs := mgc x p) rfl) ?_; rintro _ _ ⟨b1, rfl, rfl⟩); refine qp ?_; refine qn ?_; refine qp ?_; refine qt (T_load rfl rfl rfl rfl) ?_; (refine qe (E_hv0 (f := 114) ⟨_, Tryz.func114, rfl, by kernel_rfl⟩ (fun w hS => fields_any w x.K) rfl rfl (fun _ => rfl)) ?_; rintro _ _ ⟨_, rfl, _, rfl⟩); refine qp ?_; refine qn ?_; refine qp ?_; refine qd ?_; refine qd ?_; refine qt (T_loads (ds := mgc x p) rfl rfl rfl rfl rfl) ?_; ((refine qe (E_hv0 (f := 115) ⟨_, Tryz.func115, rfl, by kernel_rfl⟩ (fun w hS => set_any w x p (h.keep hS.kpO)) rfl rfl (fun _ => rfl)) ?_; rintro _ _ ⟨_, rfl, _, rfl⟩)); refine qp ?_; refine qt (T_notm (f := fldN x.K) rfl rfl hfn) ?_; refine qt (T_andN (p := setN x) (q := 127 - fldN x.K) (r := setN x &&& (127 - fldN x.K)) rfl rfl rfl hsn (by omega)) ?_; (iterate 3 refine qd ?_); refine qp ?_; refine qt (T_load rfl rfl rfl rfl) ?_; (refine qe (E_hv0 (f := 116) ⟨_, Tryz.func116, rfl, by kernel_rfl⟩ (fun w hS => server_any w x.F _ hF) rfl rfl (fun _ => rfl)) ?_; rintro _ _ ⟨_, rfl, _, rfl⟩); refine qd ?_; refine qd ?_; refine qp ?_; refine qt (T_load rfl rfl rfl rfl) ?_; (refine qe (E_hv0 (f := 116) ⟨_, Tryz.func116, rfl, by kernel_rfl⟩ (fun w hS => server_any w x.T _ hT) rfl rfl (fun _ => rfl)) ?_; rintro _ _ ⟨_, rfl, _, rfl⟩); refine qd ?_; refine qd ?_; (iterate 2 refine qp ?_; refine qt (T_load rfl rfl rfl rfl) ?_); (iterate 2 (iterate 3 refine qd ?_); refine qp ?_; refine qt (T_load rfl rfl rfl rfl) ?_); (iterate 3 refine qd ?_); refine qt (T_loads (ds := mgc x p) rfl rfl rfl rfl rfl) ?_; (refine qe (E_hv0 (f := 117) ⟨_, Tryz.func117, rfl, by kernel_rfl⟩ (fun w hS => sound_k w x p (h.keep hS.kpO) _ hso) rfl rfl (fun _ => rfl)) ?_; rintro _ _ ⟨_, rfl, _, rfl⟩); refine qd ?_; refine qd ?_; refine qn ?_; (iterate 2 refine qd ?_; refine qd ?_; refine qp ?_; refine qt (T_load rfl rfl rfl rfl) ?_; refine qp ?_; refine qd ?_); refine qd ?_; refine qd ?_; refine qp ?_; refine qp ?_; refine qt (T_load rfl rfl rfl rfl) ?_; refine qp ?_; refine qf ?_; refine qp ?_; refine qp ?_; refine qz ?_; refine qq ?_; refine qs ?_; refine qp ?_; refine qp ?_; (iterate 4 refine qk ?_); refine qp ?_; refine qz ?_; refine qF ?_; refine qx ?_; refine qs ?_; refine qp ?_; refine qp ?_; (iterate 5 refine qk ?_); refine qp ?_; refine qp ?_; refine qz ?_; refine qq ?_; refine qs ?_; refine qp ?_; refine qt (T_not rfl) ?_; refine qz ?_; refine qT ?_; refine qs ?_; refine qp ?_; refine qz ?_)
    exact hB _ _ _ _ _ rfl rfl fun w' hS => ⟨(), rfl, trivial, hS.sublist (List.nil_sublist _)⟩
  rcases Nat.eq_zero_or_pos p.n with hn0 | hn0
  · have hck2 : (decide (p.n = 0) || decide (chkE x.pl x.es x.tm = 0)) = true := by rw [decide_eq_true hn0]; rfl
    cases hcf : (x.cf.all fun n => decide (1 ≤ n) && decide (n ≤ 255))
    · obtain rfl : r = false := by rw [← hr, chkL_eq, hcf]; exact all_no 12 rfl
      have hcf' : (x.cf.all fun n => !(!(decide (1 ≤ n) && decide (n ≤ 255)))) = false := by simpa using hcf
      focus (refine qs ?_; (refine qe (E_boxa (cs := mgc x p) rfl) ?_; rintro _ _ ⟨b1, rfl, rfl⟩); refine qp ?_; refine qn ?_; refine qp ?_; refine qt (T_load rfl rfl rfl rfl) ?_; (refine qe (E_hv0 (f := 114) ⟨_, Tryz.func114, rfl, by kernel_rfl⟩ (fun w hS => fields_any w x.K) rfl rfl (fun _ => rfl)) ?_; rintro _ _ ⟨_, rfl, _, rfl⟩); refine qp ?_; refine qn ?_; refine qp ?_; refine qd ?_; refine qd ?_; refine qt (T_loads (ds := mgc x p) rfl rfl rfl rfl rfl) ?_; ((refine qe (E_hv0 (f := 115) ⟨_, Tryz.func115, rfl, by kernel_rfl⟩ (fun w hS => set_any w x p (h.keep hS.kpO)) rfl rfl (fun _ => rfl)) ?_; rintro _ _ ⟨_, rfl, _, rfl⟩)); refine qp ?_; refine qt (T_notm (f := fldN x.K) rfl rfl hfn) ?_; refine qt (T_andN (p := setN x) (q := 127 - fldN x.K) (r := setN x &&& (127 - fldN x.K)) rfl rfl rfl hsn (by omega)) ?_; (iterate 3 refine qd ?_); refine qp ?_; refine qt (T_load rfl rfl rfl rfl) ?_; (refine qe (E_hv0 (f := 116) ⟨_, Tryz.func116, rfl, by kernel_rfl⟩ (fun w hS => server_any w x.F _ hF) rfl rfl (fun _ => rfl)) ?_; rintro _ _ ⟨_, rfl, _, rfl⟩); refine qd ?_; refine qd ?_; refine qp ?_; refine qt (T_load rfl rfl rfl rfl) ?_; (refine qe (E_hv0 (f := 116) ⟨_, Tryz.func116, rfl, by kernel_rfl⟩ (fun w hS => server_any w x.T _ hT) rfl rfl (fun _ => rfl)) ?_; rintro _ _ ⟨_, rfl, _, rfl⟩); refine qd ?_; refine qd ?_; (iterate 2 refine qp ?_; refine qt (T_load rfl rfl rfl rfl) ?_); (iterate 2 (iterate 3 refine qd ?_); refine qp ?_; refine qt (T_load rfl rfl rfl rfl) ?_); (iterate 3 refine qd ?_); refine qt (T_loads (ds := mgc x p) rfl rfl rfl rfl rfl) ?_; (refine qe (E_hv0 (f := 117) ⟨_, Tryz.func117, rfl, by kernel_rfl⟩ (fun w hS => sound_k w x p (h.keep hS.kpO) _ hso) rfl rfl (fun _ => rfl)) ?_; rintro _ _ ⟨_, rfl, _, rfl⟩); refine qd ?_; refine qd ?_; refine qn ?_; (iterate 2 refine qd ?_; refine qd ?_; refine qp ?_; refine qt (T_load rfl rfl rfl rfl) ?_; refine qp ?_; refine qd ?_); refine qd ?_; refine qd ?_; refine qp ?_; refine qp ?_; refine qt (T_load rfl rfl rfl rfl) ?_; refine qp ?_; (iterate 3 refine qd ?_); refine qz ?_; refine qq ?_; refine qs ?_; refine qd ?_; refine qd ?_; refine qp ?_; refine qt (T_load rfl rfl rfl rfl) ?_; refine qp ?_; refine qf ?_; refine qp ?_; refine qz ?_; refine qF ?_; refine qx ?_; refine qs ?_; refine qd ?_; refine qd ?_; refine qp ?_; refine qp ?_; refine qt (T_load rfl rfl rfl rfl) ?_; ((refine qe (E_hv0 (f := 118) ⟨_, Tryz.func118, rfl, by kernel_rfl⟩ (fun w hS => confZ_any w p.cA p.cn p.cc 119 [] x.cf (fun n => !(decide (1 ≤ n) && decide (n ≤ 255))) (h.keep hS.kpO).rc (by omega) ⟨_, Tryz.func119, rfl, by kernel_rfl⟩ (fun w' _ n _ => num255_any w' n)) rfl rfl (fun _ => rfl)) ?_; rintro _ _ ⟨_, rfl, _, rfl⟩); rw [hcf']); refine qt (T_not rfl) ?_; refine qp ?_; refine qp ?_; refine qz ?_; refine qq ?_; refine qs ?_; refine qp ?_; refine qt (T_not rfl) ?_; refine qz ?_; refine qT ?_; refine qs ?_; refine qp ?_; refine qz ?_)
      exact hB _ _ _ _ _ rfl rfl fun w' hS => ⟨(), rfl, trivial, hS.sublist (List.nil_sublist _)⟩
    · obtain rfl : r = true := by rw [← hr, chkL_eq, hcf, decide_eq_true hf, decide_eq_true hs, hF, hT, decide_eq_true hFT, decide_eq_true h0, decide_eq_true h62, hso, decide_eq_true hn8, decide_eq_true hd6, decide_eq_true hc5, hck2]; rfl
      have hcf' : (x.cf.all fun n => !(!(decide (1 ≤ n) && decide (n ≤ 255)))) = true := by simpa using hcf
      focus (refine qs ?_; (refine qe (E_boxa (cs := mgc x p) rfl) ?_; rintro _ _ ⟨b1, rfl, rfl⟩); refine qp ?_; refine qn ?_; refine qp ?_; refine qt (T_load rfl rfl rfl rfl) ?_; (refine qe (E_hv0 (f := 114) ⟨_, Tryz.func114, rfl, by kernel_rfl⟩ (fun w hS => fields_any w x.K) rfl rfl (fun _ => rfl)) ?_; rintro _ _ ⟨_, rfl, _, rfl⟩); refine qp ?_; refine qn ?_; refine qp ?_; refine qd ?_; refine qd ?_; refine qt (T_loads (ds := mgc x p) rfl rfl rfl rfl rfl) ?_; ((refine qe (E_hv0 (f := 115) ⟨_, Tryz.func115, rfl, by kernel_rfl⟩ (fun w hS => set_any w x p (h.keep hS.kpO)) rfl rfl (fun _ => rfl)) ?_; rintro _ _ ⟨_, rfl, _, rfl⟩)); refine qp ?_; refine qt (T_notm (f := fldN x.K) rfl rfl hfn) ?_; refine qt (T_andN (p := setN x) (q := 127 - fldN x.K) (r := setN x &&& (127 - fldN x.K)) rfl rfl rfl hsn (by omega)) ?_; (iterate 3 refine qd ?_); refine qp ?_; refine qt (T_load rfl rfl rfl rfl) ?_; (refine qe (E_hv0 (f := 116) ⟨_, Tryz.func116, rfl, by kernel_rfl⟩ (fun w hS => server_any w x.F _ hF) rfl rfl (fun _ => rfl)) ?_; rintro _ _ ⟨_, rfl, _, rfl⟩); refine qd ?_; refine qd ?_; refine qp ?_; refine qt (T_load rfl rfl rfl rfl) ?_; (refine qe (E_hv0 (f := 116) ⟨_, Tryz.func116, rfl, by kernel_rfl⟩ (fun w hS => server_any w x.T _ hT) rfl rfl (fun _ => rfl)) ?_; rintro _ _ ⟨_, rfl, _, rfl⟩); refine qd ?_; refine qd ?_; (iterate 2 refine qp ?_; refine qt (T_load rfl rfl rfl rfl) ?_); (iterate 2 (iterate 3 refine qd ?_); refine qp ?_; refine qt (T_load rfl rfl rfl rfl) ?_); (iterate 3 refine qd ?_); refine qt (T_loads (ds := mgc x p) rfl rfl rfl rfl rfl) ?_; (refine qe (E_hv0 (f := 117) ⟨_, Tryz.func117, rfl, by kernel_rfl⟩ (fun w hS => sound_k w x p (h.keep hS.kpO) _ hso) rfl rfl (fun _ => rfl)) ?_; rintro _ _ ⟨_, rfl, _, rfl⟩); refine qd ?_; refine qd ?_; refine qn ?_; (iterate 2 refine qd ?_; refine qd ?_; refine qp ?_; refine qt (T_load rfl rfl rfl rfl) ?_; refine qp ?_; refine qd ?_); refine qd ?_; refine qd ?_; refine qp ?_; refine qp ?_; refine qt (T_load rfl rfl rfl rfl) ?_; refine qp ?_; (iterate 3 refine qd ?_); refine qz ?_; refine qq ?_; refine qs ?_; refine qd ?_; refine qd ?_; refine qp ?_; refine qt (T_load rfl rfl rfl rfl) ?_; refine qp ?_; refine qf ?_; refine qp ?_; refine qz ?_; refine qF ?_; refine qx ?_; refine qs ?_; refine qd ?_; refine qd ?_; refine qp ?_; refine qp ?_; refine qt (T_load rfl rfl rfl rfl) ?_; ((refine qe (E_hv0 (f := 118) ⟨_, Tryz.func118, rfl, by kernel_rfl⟩ (fun w hS => confZ_any w p.cA p.cn p.cc 119 [] x.cf (fun n => !(decide (1 ≤ n) && decide (n ≤ 255))) (h.keep hS.kpO).rc (by omega) ⟨_, Tryz.func119, rfl, by kernel_rfl⟩ (fun w' _ n _ => num255_any w' n)) rfl rfl (fun _ => rfl)) ?_; rintro _ _ ⟨_, rfl, _, rfl⟩); rw [hcf']); refine qt (T_not rfl) ?_; refine qd ?_; refine qd ?_; refine qz ?_; refine qq ?_; refine qs ?_; refine qd ?_; refine qt (T_not rfl) ?_; refine qz ?_; refine qF ?_; refine qx ?_; refine qs ?_; refine qp ?_; refine qz ?_)
      exact hB _ _ _ _ _ rfl rfl fun w' hS => ⟨(), rfl, trivial, hS.sublist (List.nil_sublist _)⟩
  · obtain ⟨ck, hck⟩ : ∃ c, chkE x.pl x.es x.tm = c := ⟨_, rfl⟩
    by_cases hc0 : ck = 0
    rotate_left
    · have hck2 : (decide (p.n = 0) || decide (chkE x.pl x.es x.tm = 0)) = false := by rw [hck, decide_eq_false (by omega), decide_eq_false hc0]; rfl
      obtain rfl : r = false := by rw [← hr]; exact all_no 11 (congrArg some hck2)
      focus (refine qs ?_; (refine qe (E_boxa (cs := mgc x p) rfl) ?_; rintro _ _ ⟨b1, rfl, rfl⟩); refine qp ?_; refine qn ?_; refine qp ?_; refine qt (T_load rfl rfl rfl rfl) ?_; (refine qe (E_hv0 (f := 114) ⟨_, Tryz.func114, rfl, by kernel_rfl⟩ (fun w hS => fields_any w x.K) rfl rfl (fun _ => rfl)) ?_; rintro _ _ ⟨_, rfl, _, rfl⟩); refine qp ?_; refine qn ?_; refine qp ?_; refine qd ?_; refine qd ?_; refine qt (T_loads (ds := mgc x p) rfl rfl rfl rfl rfl) ?_; ((refine qe (E_hv0 (f := 115) ⟨_, Tryz.func115, rfl, by kernel_rfl⟩ (fun w hS => set_any w x p (h.keep hS.kpO)) rfl rfl (fun _ => rfl)) ?_; rintro _ _ ⟨_, rfl, _, rfl⟩)); refine qp ?_; refine qt (T_notm (f := fldN x.K) rfl rfl hfn) ?_; refine qt (T_andN (p := setN x) (q := 127 - fldN x.K) (r := setN x &&& (127 - fldN x.K)) rfl rfl rfl hsn (by omega)) ?_; (iterate 3 refine qd ?_); refine qp ?_; refine qt (T_load rfl rfl rfl rfl) ?_; (refine qe (E_hv0 (f := 116) ⟨_, Tryz.func116, rfl, by kernel_rfl⟩ (fun w hS => server_any w x.F _ hF) rfl rfl (fun _ => rfl)) ?_; rintro _ _ ⟨_, rfl, _, rfl⟩); refine qd ?_; refine qd ?_; refine qp ?_; refine qt (T_load rfl rfl rfl rfl) ?_; (refine qe (E_hv0 (f := 116) ⟨_, Tryz.func116, rfl, by kernel_rfl⟩ (fun w hS => server_any w x.T _ hT) rfl rfl (fun _ => rfl)) ?_; rintro _ _ ⟨_, rfl, _, rfl⟩); refine qd ?_; refine qd ?_; (iterate 2 refine qp ?_; refine qt (T_load rfl rfl rfl rfl) ?_); (iterate 2 (iterate 3 refine qd ?_); refine qp ?_; refine qt (T_load rfl rfl rfl rfl) ?_); (iterate 3 refine qd ?_); refine qt (T_loads (ds := mgc x p) rfl rfl rfl rfl rfl) ?_; (refine qe (E_hv0 (f := 117) ⟨_, Tryz.func117, rfl, by kernel_rfl⟩ (fun w hS => sound_k w x p (h.keep hS.kpO) _ hso) rfl rfl (fun _ => rfl)) ?_; rintro _ _ ⟨_, rfl, _, rfl⟩); refine qd ?_; refine qd ?_; refine qn ?_; (iterate 2 refine qd ?_; refine qd ?_; refine qp ?_; refine qt (T_load rfl rfl rfl rfl) ?_; refine qp ?_; refine qd ?_); refine qd ?_; refine qd ?_; refine qp ?_; refine qp ?_; refine qt (T_load rfl rfl rfl rfl) ?_; refine qp ?_; (iterate 3 refine qd ?_); refine qz ?_; refine qq ?_; refine qs ?_; refine qd ?_; refine qd ?_; refine qp ?_; refine qt (T_load rfl rfl rfl rfl) ?_; refine qp ?_; refine qd ?_; refine qd ?_; refine qz ?_; refine qT ?_; refine qs ?_; refine qp ?_; refine qt (T_loads (ds := atc x.pl) rfl rfl rfl rfl rfl) ?_; refine qp ?_; refine qt (T_load rfl rfl rfl rfl) ?_; refine qt (T_build2 rfl rfl (lg_built2 x.pl p.A p.n p.c)) ?_; (refine qe (E_alloca rfl lg_zero) ?_; rintro _ _ ⟨b5, rfl, rfl⟩); (refine qw (E_storew (cs := lgc (0, 0) none 0 0) (ds := lgc x.pl p.A p.n p.c) rfl rfl rfl rfl (lgc_one _ _ _ _) rfl) ?_; rintro _ _ rfl); refine qz ?_; refine qr ?_; refine qt (T_loads (ds := lgc x.pl p.A p.n p.c) rfl rfl rfl rfl rfl) ?_; refine qp ?_; refine qt (T_load rfl rfl rfl rfl) ?_; (refine qe (E_hv0 (f := 94) ⟨_, Tryz.func94, rfl, by kernel_rfl⟩ (fun w hS => check_k w x.pl p.A p.c p.n p.Q x.es h.hn h.hQ (h.keep hS.kpO).rq (by omega) x.tm _ hck) rfl rfl (fun _ => rfl)) ?_; rintro _ _ ⟨_, rfl, _, rfl⟩); refine qf ?_; refine qp ?_; refine qn ?_; refine qp ?_; refine qp ?_; (iterate 5 refine qk ?_); refine qp ?_; refine qp ?_; refine qz ?_; refine qq ?_; refine qs ?_; refine qp ?_; refine qt (T_not rfl) ?_; refine qz ?_; refine qT ?_; refine qs ?_; refine qp ?_; refine qz ?_)
      exact hB _ _ _ _ _ rfl rfl fun w' hS => ⟨(), rfl, trivial, hS.sublist (List.nil_sublist _)⟩
    subst hc0
    have hck2 : (decide (p.n = 0) || decide (chkE x.pl x.es x.tm = 0)) = true := by rw [hck]; simp
    cases hcf : (x.cf.all fun n => decide (1 ≤ n) && decide (n ≤ 255))
    · obtain rfl : r = false := by rw [← hr, chkL_eq, hcf]; exact all_no 12 rfl
      have hcf' : (x.cf.all fun n => !(!(decide (1 ≤ n) && decide (n ≤ 255)))) = false := by simpa using hcf
      focus (refine qs ?_; (refine qe (E_boxa (cs := mgc x p) rfl) ?_; rintro _ _ ⟨b1, rfl, rfl⟩); refine qp ?_; refine qn ?_; refine qp ?_; refine qt (T_load rfl rfl rfl rfl) ?_; (refine qe (E_hv0 (f := 114) ⟨_, Tryz.func114, rfl, by kernel_rfl⟩ (fun w hS => fields_any w x.K) rfl rfl (fun _ => rfl)) ?_; rintro _ _ ⟨_, rfl, _, rfl⟩); refine qp ?_; refine qn ?_; refine qp ?_; refine qd ?_; refine qd ?_; refine qt (T_loads (ds := mgc x p) rfl rfl rfl rfl rfl) ?_; ((refine qe (E_hv0 (f := 115) ⟨_, Tryz.func115, rfl, by kernel_rfl⟩ (fun w hS => set_any w x p (h.keep hS.kpO)) rfl rfl (fun _ => rfl)) ?_; rintro _ _ ⟨_, rfl, _, rfl⟩)); refine qp ?_; refine qt (T_notm (f := fldN x.K) rfl rfl hfn) ?_; refine qt (T_andN (p := setN x) (q := 127 - fldN x.K) (r := setN x &&& (127 - fldN x.K)) rfl rfl rfl hsn (by omega)) ?_; (iterate 3 refine qd ?_); refine qp ?_; refine qt (T_load rfl rfl rfl rfl) ?_; (refine qe (E_hv0 (f := 116) ⟨_, Tryz.func116, rfl, by kernel_rfl⟩ (fun w hS => server_any w x.F _ hF) rfl rfl (fun _ => rfl)) ?_; rintro _ _ ⟨_, rfl, _, rfl⟩); refine qd ?_; refine qd ?_; refine qp ?_; refine qt (T_load rfl rfl rfl rfl) ?_; (refine qe (E_hv0 (f := 116) ⟨_, Tryz.func116, rfl, by kernel_rfl⟩ (fun w hS => server_any w x.T _ hT) rfl rfl (fun _ => rfl)) ?_; rintro _ _ ⟨_, rfl, _, rfl⟩); refine qd ?_; refine qd ?_; (iterate 2 refine qp ?_; refine qt (T_load rfl rfl rfl rfl) ?_); (iterate 2 (iterate 3 refine qd ?_); refine qp ?_; refine qt (T_load rfl rfl rfl rfl) ?_); (iterate 3 refine qd ?_); refine qt (T_loads (ds := mgc x p) rfl rfl rfl rfl rfl) ?_; (refine qe (E_hv0 (f := 117) ⟨_, Tryz.func117, rfl, by kernel_rfl⟩ (fun w hS => sound_k w x p (h.keep hS.kpO) _ hso) rfl rfl (fun _ => rfl)) ?_; rintro _ _ ⟨_, rfl, _, rfl⟩); refine qd ?_; refine qd ?_; refine qn ?_; (iterate 2 refine qd ?_; refine qd ?_; refine qp ?_; refine qt (T_load rfl rfl rfl rfl) ?_; refine qp ?_; refine qd ?_); refine qd ?_; refine qd ?_; refine qp ?_; refine qp ?_; refine qt (T_load rfl rfl rfl rfl) ?_; refine qp ?_; (iterate 3 refine qd ?_); refine qz ?_; refine qq ?_; refine qs ?_; refine qd ?_; refine qd ?_; refine qp ?_; refine qt (T_load rfl rfl rfl rfl) ?_; refine qp ?_; refine qd ?_; refine qd ?_; refine qz ?_; refine qT ?_; refine qs ?_; refine qp ?_; refine qt (T_loads (ds := atc x.pl) rfl rfl rfl rfl rfl) ?_; refine qp ?_; refine qt (T_load rfl rfl rfl rfl) ?_; refine qt (T_build2 rfl rfl (lg_built2 x.pl p.A p.n p.c)) ?_; (refine qe (E_alloca rfl lg_zero) ?_; rintro _ _ ⟨b5, rfl, rfl⟩); (refine qw (E_storew (cs := lgc (0, 0) none 0 0) (ds := lgc x.pl p.A p.n p.c) rfl rfl rfl rfl (lgc_one _ _ _ _) rfl) ?_; rintro _ _ rfl); refine qz ?_; refine qr ?_; refine qt (T_loads (ds := lgc x.pl p.A p.n p.c) rfl rfl rfl rfl rfl) ?_; refine qp ?_; refine qt (T_load rfl rfl rfl rfl) ?_; (refine qe (E_hv0 (f := 94) ⟨_, Tryz.func94, rfl, by kernel_rfl⟩ (fun w hS => check_k w x.pl p.A p.c p.n p.Q x.es h.hn h.hQ (h.keep hS.kpO).rq (by omega) x.tm _ hck) rfl rfl (fun _ => rfl)) ?_; rintro _ _ ⟨_, rfl, _, rfl⟩); refine qd ?_; refine qd ?_; refine qn ?_; refine qd ?_; refine qd ?_; refine qp ?_; refine qp ?_; refine qt (T_load rfl rfl rfl rfl) ?_; ((refine qe (E_hv0 (f := 118) ⟨_, Tryz.func118, rfl, by kernel_rfl⟩ (fun w hS => confZ_any w p.cA p.cn p.cc 119 [] x.cf (fun n => !(decide (1 ≤ n) && decide (n ≤ 255))) (h.keep hS.kpO).rc (by omega) ⟨_, Tryz.func119, rfl, by kernel_rfl⟩ (fun w' _ n _ => num255_any w' n)) rfl rfl (fun _ => rfl)) ?_; rintro _ _ ⟨_, rfl, _, rfl⟩); rw [hcf']); refine qt (T_not rfl) ?_; refine qp ?_; refine qp ?_; refine qz ?_; refine qq ?_; refine qs ?_; refine qp ?_; refine qt (T_not rfl) ?_; refine qz ?_; refine qT ?_; refine qs ?_; refine qp ?_; refine qz ?_)
      exact hB _ _ _ _ _ rfl rfl fun w' hS => ⟨(), rfl, trivial, hS.sublist (List.nil_sublist _)⟩
    · obtain rfl : r = true := by rw [← hr, chkL_eq, hcf, decide_eq_true hf, decide_eq_true hs, hF, hT, decide_eq_true hFT, decide_eq_true h0, decide_eq_true h62, hso, decide_eq_true hn8, decide_eq_true hd6, decide_eq_true hc5, hck2]; rfl
      have hcf' : (x.cf.all fun n => !(!(decide (1 ≤ n) && decide (n ≤ 255)))) = true := by simpa using hcf
      focus (refine qs ?_; (refine qe (E_boxa (cs := mgc x p) rfl) ?_; rintro _ _ ⟨b1, rfl, rfl⟩); refine qp ?_; refine qn ?_; refine qp ?_; refine qt (T_load rfl rfl rfl rfl) ?_; (refine qe (E_hv0 (f := 114) ⟨_, Tryz.func114, rfl, by kernel_rfl⟩ (fun w hS => fields_any w x.K) rfl rfl (fun _ => rfl)) ?_; rintro _ _ ⟨_, rfl, _, rfl⟩); refine qp ?_; refine qn ?_; refine qp ?_; refine qd ?_; refine qd ?_; refine qt (T_loads (ds := mgc x p) rfl rfl rfl rfl rfl) ?_; ((refine qe (E_hv0 (f := 115) ⟨_, Tryz.func115, rfl, by kernel_rfl⟩ (fun w hS => set_any w x p (h.keep hS.kpO)) rfl rfl (fun _ => rfl)) ?_; rintro _ _ ⟨_, rfl, _, rfl⟩)); refine qp ?_; refine qt (T_notm (f := fldN x.K) rfl rfl hfn) ?_; refine qt (T_andN (p := setN x) (q := 127 - fldN x.K) (r := setN x &&& (127 - fldN x.K)) rfl rfl rfl hsn (by omega)) ?_; (iterate 3 refine qd ?_); refine qp ?_; refine qt (T_load rfl rfl rfl rfl) ?_; (refine qe (E_hv0 (f := 116) ⟨_, Tryz.func116, rfl, by kernel_rfl⟩ (fun w hS => server_any w x.F _ hF) rfl rfl (fun _ => rfl)) ?_; rintro _ _ ⟨_, rfl, _, rfl⟩); refine qd ?_; refine qd ?_; refine qp ?_; refine qt (T_load rfl rfl rfl rfl) ?_; (refine qe (E_hv0 (f := 116) ⟨_, Tryz.func116, rfl, by kernel_rfl⟩ (fun w hS => server_any w x.T _ hT) rfl rfl (fun _ => rfl)) ?_; rintro _ _ ⟨_, rfl, _, rfl⟩); refine qd ?_; refine qd ?_; (iterate 2 refine qp ?_; refine qt (T_load rfl rfl rfl rfl) ?_); (iterate 2 (iterate 3 refine qd ?_); refine qp ?_; refine qt (T_load rfl rfl rfl rfl) ?_); (iterate 3 refine qd ?_); refine qt (T_loads (ds := mgc x p) rfl rfl rfl rfl rfl) ?_; (refine qe (E_hv0 (f := 117) ⟨_, Tryz.func117, rfl, by kernel_rfl⟩ (fun w hS => sound_k w x p (h.keep hS.kpO) _ hso) rfl rfl (fun _ => rfl)) ?_; rintro _ _ ⟨_, rfl, _, rfl⟩); refine qd ?_; refine qd ?_; refine qn ?_; (iterate 2 refine qd ?_; refine qd ?_; refine qp ?_; refine qt (T_load rfl rfl rfl rfl) ?_; refine qp ?_; refine qd ?_); refine qd ?_; refine qd ?_; refine qp ?_; refine qp ?_; refine qt (T_load rfl rfl rfl rfl) ?_; refine qp ?_; (iterate 3 refine qd ?_); refine qz ?_; refine qq ?_; refine qs ?_; refine qd ?_; refine qd ?_; refine qp ?_; refine qt (T_load rfl rfl rfl rfl) ?_; refine qp ?_; refine qd ?_; refine qd ?_; refine qz ?_; refine qT ?_; refine qs ?_; refine qp ?_; refine qt (T_loads (ds := atc x.pl) rfl rfl rfl rfl rfl) ?_; refine qp ?_; refine qt (T_load rfl rfl rfl rfl) ?_; refine qt (T_build2 rfl rfl (lg_built2 x.pl p.A p.n p.c)) ?_; (refine qe (E_alloca rfl lg_zero) ?_; rintro _ _ ⟨b5, rfl, rfl⟩); (refine qw (E_storew (cs := lgc (0, 0) none 0 0) (ds := lgc x.pl p.A p.n p.c) rfl rfl rfl rfl (lgc_one _ _ _ _) rfl) ?_; rintro _ _ rfl); refine qz ?_; refine qr ?_; refine qt (T_loads (ds := lgc x.pl p.A p.n p.c) rfl rfl rfl rfl rfl) ?_; refine qp ?_; refine qt (T_load rfl rfl rfl rfl) ?_; (refine qe (E_hv0 (f := 94) ⟨_, Tryz.func94, rfl, by kernel_rfl⟩ (fun w hS => check_k w x.pl p.A p.c p.n p.Q x.es h.hn h.hQ (h.keep hS.kpO).rq (by omega) x.tm _ hck) rfl rfl (fun _ => rfl)) ?_; rintro _ _ ⟨_, rfl, _, rfl⟩); refine qd ?_; refine qd ?_; refine qn ?_; refine qd ?_; refine qd ?_; refine qp ?_; refine qp ?_; refine qt (T_load rfl rfl rfl rfl) ?_; ((refine qe (E_hv0 (f := 118) ⟨_, Tryz.func118, rfl, by kernel_rfl⟩ (fun w hS => confZ_any w p.cA p.cn p.cc 119 [] x.cf (fun n => !(decide (1 ≤ n) && decide (n ≤ 255))) (h.keep hS.kpO).rc (by omega) ⟨_, Tryz.func119, rfl, by kernel_rfl⟩ (fun w' _ n _ => num255_any w' n)) rfl rfl (fun _ => rfl)) ?_; rintro _ _ ⟨_, rfl, _, rfl⟩); rw [hcf']); refine qt (T_not rfl) ?_; refine qd ?_; refine qd ?_; refine qz ?_; refine qq ?_; refine qs ?_; refine qd ?_; refine qt (T_not rfl) ?_; refine qz ?_; refine qF ?_; refine qx ?_; refine qs ?_; refine qp ?_; refine qz ?_)
      exact hB _ _ _ _ _ rfl rfl fun w' hS => ⟨(), rfl, trivial, hS.sublist (List.nil_sublist _)⟩
end Go.Proofs.YtdeffdldifepkaaGreat
namespace Go.Proofs.YtdeffdldifepkaaGreat
open Go.RowKit
open Asn (pt row rb)
set_option linter.unusedVariables false
set_option linter.unusedSimpArgs false
--@use N

/-- what Zero asks -/
def zerL (x : Ms) (n cn dn : Nat) : List Bool := [decide (x.K = 1) || decide (x.K = 3) || decide (x.K = 5) || decide (x.K = 7) || decide (x.pl = (0, 0)), decide (x.K = 2) || decide (x.K = 4) || decide (x.K = 6) || !x.ok, decide (x.K = 5) || (decide (n = 0) && decide (x.cm = 0)), decide (x.K = 6) || decide (x.ix = 0), decide (x.K = 7) || (decide (cn = 0) && decide (dn = 0))]
end Go.Proofs.YtdeffdldifepkaaGreat
namespace Go.Proofs.YtdeffdldifepkaaGreat
open Go.RowKit
open Asn (pt row rb)
set_option linter.unusedVariables false
set_option linter.unusedSimpArgs false
--@use N

/-- do terms rise, none above a term? -/
def risT (l : List En) (t tm : Nat) : Bool := risingB l t && l.all fun e => decide (e.1 ≤ tm)
/-- what the document's Right asks -/
def mgL (x : Ms) (n cn dn : Nat) : List Bool := [decide (1 ≤ x.K), decide (x.K ≤ 7), (zerL x n cn dn).all id, decide (1 ≤ x.F), decide (x.F ≤ 5), decide (1 ≤ x.T), decide (x.T ≤ 5), decide (x.F ≠ x.T), decide (0 < x.tm), decide (x.tm ≤ 4611686018427387904),
  !(decide ((x.pl.1 : Int) = 0) != decide ((x.pl.2 : Int) = 0)), decide (x.pl.2 ≤ x.tm), decide (¬ (x.K = 1 ∧ x.pl.2 = x.tm)), decide (¬ (x.K = 7 ∧ x.pl.2 = 0)), decide (n ≤ 8), decide (cn ≤ 5), decide (dn ≤ 65536), risT x.es x.pl.2 x.tm, decide (x.pl.1 ≤ 18446744073709551614 - n), x.cf.all fun n => decide (1 ≤ n) && decide (n ≤ 255)]
end Go.Proofs.YtdeffdldifepkaaGreat
namespace Go.Proofs.YtdeffdldifepkaaGreat
open Go.RowKit
open Asn (pt row rb)
set_option linter.unusedVariables false
set_option linter.unusedSimpArgs false
--@use N

/-- may a message be? -/
def rightM (x : Ms) : Bool := (mgL x x.es.length x.cf.length x.dt.length).all id
theorem fld_pos (K : Int) : 0 < fldN K ↔ 1 ≤ K ∧ K ≤ 7 := by
  unfold fldN
  constructor
  · intro h
    split at h
    · omega
    split at h
    · omega
    split at h
    · omega
    split at h
    · omega
    split at h
    · omega
    · omega
  · intro h
    split
    · decide
    split
    · decide
    split
    · decide
    split
    · decide
    split
    · decide
    · omega
theorem zer_bits (K : Int) (h : K = 1 ∨ K = 2 ∨ K = 3 ∨ K = 4 ∨ K = 5 ∨ K = 6 ∨ K = 7) : ∀ b0 b1 b2 b3 b4 b5 b6 : Bool, (bitsN [(!b0, 1), (b1, 2), (b2, 4), (b3, 8), (b4, 16), (b5, 32), (b6, 64)] 0 &&& (127 - fldN K) = 0) ↔ [decide (K = 1) || decide (K = 3) || decide (K = 5) || decide (K = 7) || b0, decide (K = 2) || decide (K = 4) || decide (K = 6) || !b1, decide (K = 5) || (!b2 && !b3), decide (K = 6) || !b4, decide (K = 7) || (!b5 && !b6)].all id = true := by
  rcases h with rfl | rfl | rfl | rfl | rfl | rfl | rfl
  · decide +kernel
  · decide +kernel
  · decide +kernel
  · decide +kernel
  · decide +kernel
  · decide +kernel
  · decide +kernel
theorem dz (n : Nat) : decide (n = 0) = !decide (0 < n) := by
  rw [Bool.eq_iff_iff]
  simp
theorem zer_set (x : Ms) (h : 1 ≤ x.K ∧ x.K ≤ 7) : (setN x &&& (127 - fldN x.K) = 0) ↔ (zerL x x.es.length x.cf.length x.dt.length).all id = true := by
  have h1 := zer_bits x.K (by omega) (decide (x.pl = (0, 0))) x.ok (decide (0 < x.es.length)) (decide (0 < x.cm)) (decide (0 < x.ix)) (decide (0 < x.cf.length)) (decide (0 < x.dt.length))
  unfold setN setL zerL
  rw [dz, dz, dz, dz, dz]
  exact h1
theorem snd_iff (K : Int) (tm a t n : Nat) : sndB K tm a t n = true ↔ (!(decide ((a : Int) = 0) != decide ((t : Int) = 0))) = true ∧ t ≤ tm ∧ ¬ (K = 1 ∧ t = tm) ∧ ¬ (K = 7 ∧ t = 0) ∧ a ≤ 18446744073709551614 - n := by
  unfold sndB
  by_cases h1 : K = 1
  · rw [if_pos h1]
    simp
    omega
  · rw [if_neg h1]
    by_cases h7 : K = 7
    · rw [if_pos h7]
      simp
      omega
    · rw [if_neg h7]
      simp
      omega
theorem rising_last : ∀ (l : List En) (t tm : Nat), risingB l t = true → l ≠ [] → (lastT l t ≤ tm ↔ (l.all fun e => decide (e.1 ≤ tm)) = true)
  | [], _, _, _, h => absurd rfl h
  | [e], t, tm, _, _ => by
    show e.1 ≤ tm ↔ _
    simp
  | e :: f :: l, t, tm, h, _ => by
    have h2 : risingB (f :: l) e.1 = true := by
      unfold risingB at h
      rw [Bool.and_eq_true] at h
      exact h.2
    have ih := rising_last (f :: l) e.1 tm h2 (by simp)
    have e1 : lastT (e :: f :: l) t = lastT (f :: l) e.1 := by
      have := lastT_app [e] (f :: l) t
      exact this
    have h3 : e.1 ≤ f.1 := by
      unfold risingB at h2
      simp only [Bool.and_eq_true, decide_eq_true_eq] at h2
      exact h2.1.2
    rw [e1, ih, List.all_cons (a := e), Bool.and_eq_true]
    constructor
    · intro h4
      refine ⟨?_, h4⟩
      rw [List.all_cons, Bool.and_eq_true, decide_eq_true_eq] at h4
      exact decide_eq_true (by omega)
    · exact fun h4 => h4.2
theorem ris_iff (a t : Nat) (es : List En) (tm : Nat) (h0 : (!(decide ((a : Int) = 0) != decide ((t : Int) = 0))) = true) (h8 : es.length ≤ 8) (ha : a ≤ 18446744073709551614 - es.length) (ht : t ≤ tm) :
    (decide (es.length = 0) || decide (chkE (a, t) es tm = 0)) = true ↔ risT es t tm = true := by
  by_cases hn : es = []
  · subst hn
    simp [risT, risingB]
  · have hl : es.length ≠ 0 := fun h => hn (List.eq_nil_of_length_eq_zero h)
    rw [decide_eq_false hl, Bool.false_or, decide_eq_true_eq]
    have hb : (decide (((a, t) : At) = (0, 0)) || (decide (0 < a) && decide (0 < t))) = true := by
      simp at h0 ⊢
      omega
    have hr : rightB (a, t) es = risingB es t := by
      unfold rightB
      dsimp only
      rw [hb, decide_eq_true (show es.length ≤ 16 by omega), decide_eq_true ha]
      rfl
    unfold chkE risT
    rw [hr, Bool.and_eq_true]
    cases hq : risingB es t
    · simp
    · rw [if_pos rfl, ← rising_last es t tm hq hn]
      show ((if tm < lastT es t then (2 : Int) else 0) = 0) ↔ _
      split
      · simp; omega
      · simp; omega
theorem check_right (x : Ms) : (chkL x x.es.length x.dt.length x.cf.length).all id = rightM x := by
  unfold rightM
  rw [Bool.eq_iff_iff]
  unfold chkL mgL
  simp only [List.all_cons, List.all_nil, id, Bool.and_eq_true, decide_eq_true_eq, and_true]
  rw [snd_iff, fld_pos]
  constructor
  · rintro ⟨hK, hz, ⟨hF1, hF5⟩, ⟨hT1, hT5⟩, hFT, h0, h62, ⟨hb, htt, hk1, hk7, ha⟩, hn, hd, hc, hck, hall⟩
    exact ⟨hK.1, hK.2, by simpa only [List.all_cons, List.all_nil, id, Bool.and_eq_true, and_true] using (zer_set x hK).1 hz, hF1, hF5, hT1, hT5, hFT, h0, h62, hb, htt, hk1, hk7, hn, hc, hd, (ris_iff _ _ _ _ hb hn ha htt).1 hck, ha, hall⟩
  · rintro ⟨hK1, hK7, hz, hF1, hF5, hT1, hT5, hFT, h0, h62, hb, htt, hk1, hk7, hn, hc, hd, hr, ha, hall⟩
    exact ⟨⟨hK1, hK7⟩, (zer_set x ⟨hK1, hK7⟩).2 hz, ⟨hF1, hF5⟩, ⟨hT1, hT5⟩, hFT, h0, h62, ⟨hb, htt, hk1, hk7, ha⟩, hn, hd, hc, (ris_iff _ _ _ _ hb hn ha htt).2 hr, hall⟩
/-- Check, told by rightM -/
theorem checkM_any (w : World) (x : Ms) (p : Mp) (h : MsR w x p) (r : Bool) (hr : rightM x = r) :
    Gives Tryz.prog 45 [.agg (mgc x p).toArray] [] w (X := Unit) (fun _ => .int .i64 (if r = true then 0 else 230)) (fun _ => True) (fun _ => []) :=
  checkM_k w x p h r (by rw [← hr, ← check_right, h.ln, h.dn, h.hc])
end Go.Proofs.YtdeffdldifepkaaGreat
namespace Go.Proofs.YtdeffdldifepkaaGreat
open Go.RowKit
open Asn (pt row rb)
set_option linter.unusedVariables false
set_option linter.unusedSimpArgs false
--@use N

/-- are two messages the same, field by field? -/
def eqL (x y : Ms) : List Bool := [decide (x.K = y.K), decide (x.F = y.F), decide (x.T = y.T), decide (x.tm = y.tm), decide (x.pl = y.pl), decide (x.es = y.es), decide (x.cm = y.cm), x.ok == y.ok, decide (x.ix = y.ix), decide (x.cf = y.cf), decide (x.dt = y.dt)]
theorem eqL_iff (x y : Ms) : (eqL x y).all id = true ↔ x = y := by
  obtain ⟨a1, a2, a3, a4, a5, a6, a7, a8, a9, a10, a11⟩ := x
  obtain ⟨b1, b2, b3, b4, b5, b6, b7, b8, b9, b10, b11⟩ := y
  simp only [eqL, List.all_cons, List.all_nil, id, Bool.and_eq_true, decide_eq_true_eq, beq_iff_eq, and_true, Ms.mk.injEq]
instance : DecidableEq Ms := fun x y => decidable_of_iff _ (eqL_iff x y)
end Go.Proofs.YtdeffdldifepkaaGreat
namespace Go.Proofs.YtdeffdldifepkaaGreat
open Go.RowKit
open Asn (pt row rb)
set_option linter.unusedVariables false
set_option linter.unusedSimpArgs false
--@use N

theorem cf_eq {l m : List Int} (hl : l.length = m.length) (h : ∀ i, i < l.length → l.getD i 0 = m.getD i 0) : l = m := by
  refine List.ext_getElem hl fun i h1 h2 => ?_
  have := h i h1
  simpa [List.getD, h1, h2] using this
end Go.Proofs.YtdeffdldifepkaaGreat
namespace Go.Proofs.YtdeffdldifepkaaGreat
open Go.RowKit
open Asn (pt row rb)
set_option linter.unusedVariables false
set_option linter.unusedSimpArgs false
/-- what is known: D, and all of L -/
def KL (D : Kw) (L : List Asn) : Kw := fun w => D w ∧ ∀ A ∈ L, A.holds w
theorem Kd.subL {D : Kw} {As As' Hr L : List Asn} {w w' : World} (h : Kd D As w) (hS : St w (owns As) (As' ++ Hr) w') (hL : ∀ A ∈ L, A ∈ Hr) : Kd (KL D L) As' w' := fun w2 hk => by
  have hap := List.pairwise_append.1 hS.apart
  refine ⟨h w2 ⟨hS.kp.os ▸ hk.os, hS.kp.tape ▸ hk.tape, hS.kp.output ▸ hk.output, Nat.le_trans hS.kp.size hk.size, fun k hn hlt => ?_⟩, fun Z hZ => ?_⟩
  · rw [hk.block k (fun ⟨B, hB, ho⟩ => ?_) (Nat.lt_of_lt_of_le hlt hS.kp.size)]
    · exact hS.kp.block k hn hlt
    · rcases ((hS.all B (List.mem_append_left _ hB)).2 k ho).1 with h1 | h1
      · exact hn h1
      · omega
  · refine Z.stable w' w2 (hk.mono fun k ho _ ⟨B, hB, hb⟩ => ?_) (hS.all Z (List.mem_append_right _ (hL Z hZ))).1
    exact hap.2.2 B hB Z (hL Z hZ) k hb ho
/-- parts are taken out -/
class RemL (H : List Asn) (L : List Asn) (H' : outParam (List Asn)) : Prop where
  perm : H.Perm (L ++ H')
instance RemL.nil {H : List Asn} : RemL H [] H := ⟨List.Perm.refl _⟩
instance RemL.cons {A : Asn} {H H1 H2 L : List Asn} [h : RemC H A H1] [h2 : RemL H1 L H2] : RemL H (A :: L) H2 := ⟨h.perm.trans (List.Perm.cons _ h2.perm)⟩
theorem RemL.mem {A : Asn} {H L H' : List Asn} [h : RemL H L H'] (hA : A ∈ L) : A ∈ H := h.perm.mem_iff.2 (List.mem_append_left _ hA)
section
variable {P : Program} {n : Nat} {w0 : World} {M : Nat → Prop} {T : Slots} {As H H1 H2 Hr : List Asn} {dd : Option Tmp} {tt : TypeId} {pos : String} {af : Array Edge} {g : Option (Nat × Bool)} {ts : Array TypeId} {f : FuncId} {xs : Array Operand} {vs vs' : List Value} {X : Type} {V : X → Value} {I : X → Prop} {Z : Asn} {C : X → Asn} {D : Kw} {x : Operand}
/-- a call that turns the parts L, and leaves more that is known -/
theorem E_mthL (L : List Asn) (Q : X → List Asn) [h1 : RemL H L H1] [h2 : RemC H1 Z Hr] (hD : Kd D As w0) (hf : Fn_ P f)
    (hc : ∀ w1, St w0 (owns As) (L ++ Z :: Hr) w1 → Kd (K2 D Z) L w1 → St w1 (owns L) L w1 → Gives P f vs' L w1 V I (fun x => Q x ++ [C x])) (hx : ogets T xs.toList = some vs) (hv : vs = vs') :
    Ef P n w0 (owns As) T H ⟨dd, .call ⟨.value (.func f), xs, ts⟩, tt, pos, af, g⟩ (fun u H' => ∃ x Z', u = V x ∧ I x ∧ (∀ w, K2 D Z' w → K2 D Z w) ∧ (∀ w, K2 D Z' w → K2 (K2 D Z) (C x) w) ∧ H' = Q x ++ Z' :: Hr) := by
  subst hv
  refine (E_call L (Z :: Hr) V I (fun x => Q x ++ [C x]) hx hf (fun w hS => hS.perm (h1.perm.trans (List.Perm.append_left _ h2.perm))) fun w hS => hc w hS (hD.sub (As' := L) hS (by simp)) (St.again (As := L) hS)).mono ?_
  rintro v H' ⟨x, hI, rfl, rfl⟩ w hS
  refine ⟨_, _, rfl, ⟨x, zA (C x) Z, rfl, hI, fun _ h => K2.old h, fun _ h => K2.up h, rfl⟩, ?_⟩
  have h3 : St w0 (owns As) (C x :: Z :: (Q x ++ Hr)) w := by
    rw [List.append_assoc] at hS
    refine hS.perm (List.Perm.trans (List.perm_append_comm_assoc ..) ?_)
    refine List.Perm.cons _ ?_
    exact List.perm_middle
  exact (zA_in h3).perm List.perm_middle.symm
/-- a call that turns the parts L -/
theorem E_htL (L : List Asn) (Q : X → List Asn) {M : Nat → Prop} [h1 : RemL H L Hr] (hf : Fn_ P f)
    (hc : ∀ w1, St w0 M (L ++ Hr) w1 → St w1 (owns L) L w1 → Gives P f vs' L w1 V I Q) (hx : ogets T xs.toList = some vs) (hv : vs = vs') :
    Ef P n w0 M T H ⟨dd, .call ⟨.value (.func f), xs, ts⟩, tt, pos, af, g⟩ (fun u H' => ∃ x, u = V x ∧ I x ∧ H' = Q x ++ Hr) := by
  subst hv
  refine (E_call L Hr V I Q hx hf (fun w hS => hS.perm h1.perm) fun w hS => hc w hS (St.again (As := L) hS)).mono ?_
  rintro v H' ⟨x, hI, rfl, rfl⟩ w hS
  exact ⟨_, _, rfl, ⟨x, rfl, hI, rfl⟩, hS⟩
/-- the same by a closure -/
theorem E_mthF (cap : List Value) (L : List Asn) (Q : X → List Asn) [h1 : RemL H L H1] [h2 : RemC H1 Z Hr] (hD : Kd D As w0) (hf : Fn_ P f) (hx0 : oget T x = some (.func (.func f) #[] cap.toArray))
    (hc : ∀ w1, St w0 (owns As) (L ++ Z :: Hr) w1 → Kd (K2 D Z) L w1 → St w1 (owns L) L w1 → Gives P f vs' L w1 V I (fun x => Q x ++ [C x])) (hx : ogets T (xs ++ (cap.map Operand.const).toArray).toList = some vs) (hv : vs = vs') :
    Ef P n w0 (owns As) T H ⟨dd, .call ⟨.value x, xs, ts⟩, tt, pos, af, g⟩ (fun u H' => ∃ x Z', u = V x ∧ I x ∧ (∀ w, K2 D Z' w → K2 D Z w) ∧ (∀ w, K2 D Z' w → K2 (K2 D Z) (C x) w) ∧ H' = Q x ++ Z' :: Hr) :=
  E_cloA hx0 (E_mthL L Q hD hf hc hx hv)
/-- a cell is read, wherever it is known -/
theorem T_ldq [HasTab P] {s : TypeId} {gb off : Nat} {v : Value} {i : Ti} (hx : oget T x = some (.pointer (some ⟨gb, off, none⟩))) (hs : ty P s = some i) (hi : aggB i.desc = false) (hr : ∀ w, St w0 M H w → w.cell? ⟨gb, off, none⟩ = some v) : Tk P n w0 M T H ⟨dd, .load s x, tt, pos, af, g⟩ v := .mk fun a w ha hS => by
  simp [execOp, ha.eval hx, Instr.loadAt, Instr.sureAddr, loadVar_cell hs hi (hr w hS)]
end
/-- an iterator that knows D, and reads R of what the rounds turn (R0 ahead of the first) -/
def IterR (P : Program) (gf : FuncId) (lb : List Value) (D R0 R : Kw) (es : List (List Value)) (w : World) : Prop :=
  ∀ (l : Nat) (X : Type) (Z : X → Asn) (I : Nat → X → Prop) (S : Nat → X → Prop) (x0 : X), I 0 x0 → St w (owns [Z x0]) [Z x0] w → Kd D [Z x0] w → (∀ w', (Z x0).holds w' → R0 w') → (∀ i x w', I i x → (Z x).holds w' → R w') →
    (∀ i x w', I i x → i < es.length → St w (owns [Z x0]) [Z x] w' → YGives P l (es.getD i []) w' (Z x) Z (I (i + 1)) (S i)) →
    Gives P gf (.func (.yield l) #[] #[] :: lb) [Z x0] w (X := X × Option Nat) (fun _ => .tuple #[]) (fun y => match y.2 with
      | none => I es.length y.1
      | some i => i < es.length ∧ S i y.1) (fun y => [Z y.1])
section
variable {P : Program} {B : Bk none []} {n : Nat} {w0 : World} {M : Nat → Prop} {k : List It} {T : Slots} {H : List Asn} {c : Code}
theorem S_rangeR {X : Type} {g : Operand} {ps : List Tmp} {gf : FuncId} {lb : List Value} {D0 R0 R : Kw} {es : List (List Value)} (L : X → List Asn) (I : Nat → X → Prop) (S : Nat → X → Prop) (x0 : X) (Hk : List Asn)
    (hk : kind c = .range g ps.toArray) (hg : oget T g = some (.func (.func gf) #[] lb.toArray)) (hfn : Fn_ P gf) (hps : oks n ps = true) (hes : ∀ e ∈ es, e.length = ps.length) (h0 : I 0 x0)
    (hH : ∀ w, St w0 M H w → St w0 M (L x0 ++ Hk) w) (hit : ∀ w, St w0 M (L x0 ++ Hk) w → IterR P gf lb D0 R0 R es w) (hF : ∀ w, St w0 M (L x0 ++ Hk) w → Kd D0 (L x0) w) (hR0 : ∀ w, (∀ A ∈ L x0, A.holds w) → R0 w) (hR : ∀ i x w, I i x → (∀ A ∈ L x, A.holds w) → R w)
    (round : ∀ i x w, I i x → i < es.length → St w0 M (L x ++ Hk) w → Round P n w0 M Hk c T (es.getD i []) ps w L x (I (i + 1)) (S i))
    (done : ∀ y D, I es.length y → RS P (B.cast (mark D)) n w0 M k T (obA D (.deferred (some [])) :: (L y ++ Hk)))
    (stop : ∀ y D i, i < es.length → S i y → RS P (B.cast (mark D)) n w0 M (.code .ret :: k) T (obA D (.deferred (some [])) :: (L y ++ Hk))) : RS P B n w0 M (.code c :: k) T H := by
  cases c <;> try (cases hk; done)
  rename_i g' ps' asg bd
  injection hk with hk1 hk2
  subst hk1 hk2
  refine ⟨fun a w had ha hs => ?_⟩
  show (Code.rangeFunc g' ps.toArray asg bd).wpIn (Fw none) 0 P (QS P B k) a w
  refine wpIn_rangeFunc fun fn _ => ?_
  have hs0 := hH w hs
  obtain ⟨rec, hrec⟩ : ∃ rec : LoopState → Option Code → Loop, rec = recL fn a.tmps ps.toArray asg bd w.heap.size := ⟨_, rfl⟩
  obtain ⟨l, hl⟩ : ∃ l, w.heap.size + 1 = l := ⟨_, rfl⟩
  obtain ⟨D, hD⟩ : ∃ D, w.heap.size = D := ⟨_, rfl⟩
  obtain ⟨w1, hw1⟩ : ∃ w1, (w.alloc (.deferred (some []))).alloc (.loop (rec .ready none)) = w1 := ⟨_, rfl⟩
  have hs1 : St w0 M (obA l (.loop (rec .ready none)) :: (L x0 ++ (obA D (.deferred (some [])) :: Hk))) w1 := by
    have h1 := obA_new (.deferred (some [])) hs0
    have h2 := obA_new (.loop (rec .ready none)) h1
    rw [hw1, World.size_alloc, hl, hD] at h2
    exact h2.perm (List.Perm.cons _ List.perm_middle.symm)
  obtain ⟨rj, hn, hsm⟩ : ∃ rj : Option Code → Loop, rj none = rec .ready none ∧ rj (some .ret) = rec .done (some .ret) := ⟨fun j => match j with | none => rec .ready none | some j => rec .done (some j), rfl, rfl⟩
  obtain ⟨Z, hZ⟩ : ∃ Z : X × Option Code → Asn, Z = fun x => bun (obA l (.loop (rj x.2)) :: L x.1) := ⟨_, rfl⟩
  have hs2 : St w0 M (Z (x0, none) :: (obA D (.deferred (some [])) :: Hk)) w1 := by
    rw [hZ]
    simp only [hn]
    exact bun_in (L := obA l (.loop (rec .ready none)) :: L x0) hs1
  have hsz : w.heap.size ≤ w1.heap.size := by rw [← hw1]; simp; omega
  have hit1 := hit w1 (hs1.tail.perm ((List.perm_middle).trans (List.Perm.refl _)) |>.tail)
  have hagain : St w1 (owns [Z (x0, none)]) [Z (x0, none)] w1 := St.again (As := [Z (x0, none)]) hs2
  refine ⟨l, mark D, w1, { target := .fn (.func gf) lb.toArray, args := #[.func (.yield l) #[] #[]] }, w1, gf, #[.func (.yield l) #[] #[]] ++ lb.toArray, w1, ?_, ?_, fun _ _ => trivial, ?_, fun h => (by cases h), ?_⟩
  · have := run_enterLoop_outer (P := P) (w := w) fn a.tmps ps.toArray asg bd
    rw [hl] at this
    rw [← hw1, hrec, ← hD]
    exact this
  · have e1 := ha.eval hg
    have e2 : a.eval (.const (.func (.yield l) #[] #[])) = .func (.yield l) #[] #[] := rfl
    simp [resolve, rangeCall, e1, e2, Deferred.ofValue]
  · have := callFunc_run hfn (#[.func (.yield l) #[] #[]] ++ lb.toArray) w1
    simpa [invoke] using this
  refine callsIn_wide.2 ?_
  have hcall := hit1 l (X × Option Code) Z (fun i x => x.2 = none ∧ I i x.1) (fun i x => x.2 = some .ret ∧ S i x.1) (x0, none) ⟨rfl, h0⟩ hagain (fun w2 hk2 => ?_) (fun w2 hw2 => hR0 w2 fun A hA => by rw [hZ] at hw2; exact hw2.1 A (List.mem_cons_of_mem _ hA)) (fun i x w2 hI2 hw2 => hR i x.1 w2 hI2.2 fun A hA => by rw [hZ] at hw2; exact hw2.1 A (List.mem_cons_of_mem _ hA)) ?_
  · have e3 : (Value.func (.yield l) #[] #[] :: lb).toArray = #[.func (.yield l) #[] #[]] ++ lb.toArray := by simp
    unfold Gives at hcall
    rw [e3] at hcall
    refine hcall.mono fun e w3 ⟨y, he, hy, hS3⟩ => ?_
    subst he
    have h4 : St w0 M ([Z y.1] ++ (obA D (.deferred (some [])) :: Hk)) w3 := St.call (As := [Z (x0, none)]) hs2 hS3
    obtain ⟨⟨y1, y2⟩, y3⟩ := y
    have hfin : ∀ (st : LoopState) (pe : Option Code), St w0 M (obA l (.loop (rec st pe)) :: (L y1 ++ (obA D (.deferred (some [])) :: Hk))) w3 → st ≠ .busy → ∃ w4, (Instr.endLoop l).run P w3 = .ok pe w4 ∧ St w0 M (obA D (.deferred (some [])) :: (L y1 ++ Hk)) w4 := fun st pe h hb => by
      have h5 := run_endLoop (P := P) (obA_at h) (by rw [hrec]; exact hb)
      refine ⟨_, by rw [h5, hrec]; rfl, ?_⟩
      exact ((obA_put _ h).tail).perm List.perm_middle
    have hdef : mark D ++ a.defers = mark D := by rw [had]; rfl
    rw [hZ] at h4
    cases y3 with
    | none =>
      obtain ⟨rfl, hI⟩ : y2 = none ∧ I es.length y1 := hy
      obtain ⟨w4, h5, h6⟩ := hfin .ready none (by simp only [hn] at h4; exact bun_out h4) (by decide)
      refine ⟨none, w4, h5, ?_⟩
      have := (done y1 D hI).runD { a with defers := mark D ++ a.defers } w4 hdef ⟨ha.size, ha.at_⟩ h6
      rwa [QS_cast] at this
    | some i =>
      obtain ⟨hi, rfl, hSt⟩ : i < es.length ∧ y2 = some .ret ∧ S i y1 := hy
      obtain ⟨w4, h5, h6⟩ := hfin .done (some .ret) (by simp only [hsm] at h4; exact bun_out h4) (by decide)
      refine ⟨some .ret, w4, h5, ?_⟩
      have := (stop y1 D i hi hSt).runD { a with defers := mark D ++ a.defers } w4 hdef ⟨ha.size, ha.at_⟩ h6
      rw [QS_cast] at this
      exact this
  · have hk0 : Kp All w w1 := by
      rw [← hw1]
      exact (Kp.alloc w _).trans (Kp.alloc _ _)
    refine hF w hs0 w2 ⟨hk0.os ▸ hk2.os, hk0.tape ▸ hk2.tape, hk0.output ▸ hk2.output, Nat.le_trans hsz hk2.size, fun q hq hlt => ?_⟩
    rw [hk2.block q (fun ho => ?_) (Nat.lt_of_lt_of_le hlt hsz)]
    · exact hk0.block q trivial hlt
    · rw [hZ] at ho
      obtain ⟨A, hA, hk⟩ := owns_bun.1 ho
      rcases List.mem_cons.1 hA with rfl | hA
      · have hk : q = l := hk
        omega
      · exact hq ⟨A, hA, hk⟩
  · rintro i ⟨x, x2⟩ w' ⟨hx2, hI⟩ hi hSw
    obtain rfl : x2 = none := hx2
    have h4 : St w0 M (Z (x, none) :: (obA D (.deferred (some [])) :: Hk)) w' := St.call (As := [Z (x0, none)]) hs2 hSw
    rw [hZ] at h4
    simp only [hn] at h4
    have h5 : St w0 M (obA l (.loop (rec .ready none)) :: (L x ++ (obA D (.deferred (some [])) :: Hk))) w' := bun_out h4
    have h6 : St w0 M (L x ++ Hk) w' := (h5.tail.perm List.perm_middle).tail
    have hat := obA_at h5
    have hlen : (es.getD i []).length = ps.length := hes _ (by simp [List.getD, hi])
    have hr0 := round i x w' hI hi h6
    have hag : St w' (owns (obA l (.loop (rec .ready none)) :: L x)) (obA l (.loop (rec .ready none)) :: L x) w' := St.again (As := obA l (.loop (rec .ready none)) :: L x) (Hr := obA D (.deferred (some [])) :: Hk) h5
    refine ⟨fn, ((ps.toArray.zip (es.getD i []).toArray).foldl (fun tmps (t, a) => tmps.setIfInBounds t a) a.tmps), asg, bd, ?_, roundIn_of_wpIn trivial ?_⟩
    · have h7 := run_yield (P := P) (args := (es.getD i []).toArray) hat (by rw [hrec]; simpa [recL] using hlen)
      rw [h7, hrec]
      rfl
    · have hf : ((ps.toArray.zip (es.getD i []).toArray).foldl (fun tmps (x : Tmp × Value) => tmps.setIfInBounds x.1 x.2) a.tmps) = ((ps.zip (es.getD i [])).foldl (fun tmps (x : Tmp × Value) => tmps.setIfInBounds x.1 x.2) a.tmps) := by
        rw [← Array.foldl_toList, Array.toList_zip]
      have hTm : Tm n { tmps := ((ps.toArray.zip (es.getD i []).toArray).foldl (fun tmps (x : Tmp × Value) => tmps.setIfInBounds x.1 x.2) a.tmps), defers := [] } (tputs ps (es.getD i []) T) := by
        rw [hf]
        exact Tm.puts ps (es.getD i []) a T ha hps
      obtain ⟨R, hR⟩ : ∃ R : Ending → World → Prop, R = fun e w'' => ∃ (y : X × Option Code) (b : Bool), e = .returned (.bool b) ∧ (b = true → y.2 = none ∧ I (i + 1) y.1) ∧ (b = false → y.2 = some .ret ∧ S i y.1) ∧ St w' (owns [Z (x, none)]) [Z y] w'' := ⟨_, rfl⟩
      rw [← hR]
      have hclose : ∀ (y : X) (j : Option Code) (w2 : World), St w' (owns (obA l (.loop (rec .ready none)) :: L x)) (obA l (.loop (rj j)) :: L y) w2 → St w' (owns [Z (x, none)]) [Z (y, j)] w2 := fun y j w2 h => by
        rw [hZ]
        simp only [hn]
        refine St.own (bun_in (H := []) (L := obA l (.loop (rj j)) :: L y) (by rw [List.append_nil]; exact h)) fun q => owns_bun.symm
      have := hr0 l (obA l (.loop (rec .ready none))) (obA l (.loop { rec .ready none with state := .busy })) (fun _ _ _ => False) (roundPost P l R) (fun a₁ w₁ => ∃ w₂, (Instr.beginRound l).run P w₁ = .ok () w₂ ∧ bd.wpIn (Fw (some l)) 0 P (roundPost P l R) a₁ w₂) (by
          have h7 : St w0 M (obA D (.deferred (some [])) :: (obA l (.loop (rec .ready none)) :: (L x ++ Hk))) w' := h5.perm ((List.Perm.cons _ List.perm_middle).trans (List.Perm.swap _ _ _))
          exact h7.tail)
        (fun T1 H1 H1' hbody hsub => ⟨fun a w2 had2 ha2 hs2 => ⟨w2.putObj l _, run_beginRound (obA_at (hsub w2 hs2)) (by rw [hrec]; rfl), hbody.runD a _ had2 ha2 (obA_put _ (hsub w2 hs2))⟩⟩)
        (fun y T1 H1 hI1 hsub => ⟨fun a w2 _ _ hs2 => by
          have h8 := hsub w2 hs2
          refine ⟨_, _, run_endRound none (obA_at h8), ?_⟩
          rw [hR]
          refine ⟨(y, none), true, rfl, fun _ => ⟨rfl, hI1⟩, fun h => (by cases h), hclose y none _ ?_⟩
          have h9 := obA_put (.loop { ({ rec .ready none with state := .busy } : Loop) with state := .ready, pending := none }) h8
          rw [hn]
          rw [hrec] at h9 ⊢
          exact h9⟩)
        (fun y c' k' T1 H1 hS1 hk' hsub => ⟨fun a w2 _ _ hs2 => by
          have h8 := hsub w2 hs2
          have e : c' = .ret := by cases c' <;> first | rfl | (cases hk'; done)
          subst e
          refine wpIn_ret (QS_ret (fun _ _ => .inr trivial) ?_)
          refine ⟨_, _, run_endRound (some .ret) (obA_at h8), ?_⟩
          rw [hR]
          refine ⟨(y, some .ret), false, rfl, fun h => (by cases h), fun _ => ⟨rfl, hS1⟩, hclose y (some .ret) _ ?_⟩
          have h9 := obA_put (.loop { ({ rec .ready none with state := .busy } : Loop) with state := .done, pending := some .ret }) h8
          rw [hsm]
          rw [hrec] at h9 ⊢
          exact h9⟩)
      exact this.runD _ w' rfl hTm hag
end
/-- a function without results that ranges over functions, opened: its ends ahead of a range and behind one -/
theorem gives_MN {P : Program} {f : FuncId} {fn : Func} {vs : List Value} {n : Nat} {w : World} {As : List Asn} {X : Type} {I : X → Prop} {A : X → List Asn} (hf : P.funcs[f]? = some fn) (hb : fn.body.isSome = true) (hn : fn.ntmps = n) (hr : fn.results = #[])
    (hv : vs.length ≤ n) (hS : St w (owns As) As w) (h : ∀ B : Bk none [],
      (∀ (T : Slots) (H : List Asn), (∀ w', St w (owns As) H w' → ∃ x, I x ∧ St w (owns As) (A x) w') → RS P B n w (owns As) [] T H) →
      (∀ (c : Code) (k : List It) (T : Slots) (H : List Asn), kind c = .ret → (∀ w', St w (owns As) H w' → ∃ x, I x ∧ St w (owns As) (A x) w') → RS P B n w (owns As) (.code c :: k) T H) →
      (∀ (D : Nat) (T : Slots) (H Hr : List Asn), RemC H (obA D (.deferred (some []))) Hr → (∀ w', St w (owns As) Hr w' → ∃ x, I x ∧ St w (owns As) (A x) w') → RS P (B.cast (mark D)) n w (owns As) [] T H) →
      RS P B n w (owns As) [.code (cbody fn)] (targs 0 vs) As) : Gives P f vs As w (fun _ => .tuple #[]) I A := by
  obtain ⟨c, hc⟩ := Option.isSome_iff_exists.1 hb
  obtain ⟨R, hR⟩ : ∃ R : Ending → World → Prop, R = fun e w' => ∃ x, e = .returned (.tuple #[]) ∧ I x ∧ St w (owns As) (A x) w' := ⟨_, rfl⟩
  unfold Gives
  have hR2 : (fun e w' => ∃ x : X, e = Ending.returned ((fun _ => Value.tuple #[]) x) ∧ I x ∧ St w (owns As) (A x) w') = R := hR.symm
  rw [hR2]
  have hres : ∀ {T : Slots} {H : List Asn} {a : Act} {w' : World}, Tm n a T → St w (owns As) H w' → (results fn a.tmps).run P w' = .ok (.tuple #[]) w' := fun {T H a w'} ha hs => by
    simp [results, hr]
  refine (callsIn_wide (n := 0)).1 (callsIn_of_wp_marks hf hc trivial ?_)
  have hmain := h (bodyPostM Fence.wide 0 P fn R) (fun T H hw => ⟨fun a w' had ha hs => by
    show LeavesInM Fence.wide 0 P fn a.tmps R a.defers .returning w'
    rw [had]
    obtain ⟨x, hI, hA⟩ := hw w' hs
    exact ⟨.tuple #[], hres ha hs, by rw [hR]; exact ⟨x, rfl, hI, hA⟩⟩⟩) (fun c' k T H hk hw => ⟨fun a w' had ha hs => by
    have e : c' = .ret := by cases c' <;> first | rfl | (cases hk; done)
    subst e
    refine wpIn_ret (QS_ret (fun _ _ => .inr trivial) ?_)
    show LeavesInM Fence.wide 0 P fn a.tmps R a.defers .returning w'
    rw [had]
    obtain ⟨x, hI, hA⟩ := hw w' hs
    exact ⟨.tuple #[], hres ha hs, by rw [hR]; exact ⟨x, rfl, hI, hA⟩⟩⟩) (fun D T H Hr hrem hw => ⟨fun a w' had ha hs => by
    show LeavesInM Fence.wide 0 P fn a.tmps R a.defers .returning w'
    rw [had]
    have hs1 := hs.perm hrem.perm
    have hs2 := (obA_put (.deferred none) hs1).tail
    obtain ⟨x, hI, hA⟩ := hw _ hs2
    exact ⟨by simp, .inl ⟨D, _, rfl, run_takeDeferred (obA_at hs1), .tuple #[], hres ha hs2, by rw [hR]; exact ⟨x, rfl, hI, hA⟩⟩⟩⟩)
  have e : cbody fn = c := by unfold cbody; rw [hc]
  rw [e] at hmain
  refine hmain.runD _ w rfl ⟨?_, fun i v hi => ?_⟩ hS
  · simp [hn]; omega
  · obtain ⟨_, h2⟩ := tget_targs vs 0 i v hi
    have hlt := (List.getElem?_eq_some_iff.1 h2).1
    simp only [Nat.sub_zero] at hlt h2
    have h3 : (vs.toArray ++ Array.replicate (fn.ntmps - vs.toArray.size) undef)[i]? = vs[i]? := by rw [Array.getElem?_append_left (by simpa using hlt)]; simp
    exact h3.trans h2
end Go.Proofs.YtdeffdldifepkaaGreat
namespace Go.Proofs.YtdeffdldifepkaaGreat
open Go.RowKit
open Asn (pt row rb)
set_option linter.unusedVariables false
set_option linter.unusedSimpArgs false
abbrev zk (s : Int) : Value := .int .i64 s
theorem zk_inj {a b : Int} (h : zk a = zk b) : a = b := by injection h
theorem zk_key (s : Int) : MapKept.IsKey (.int .i64) (zk s) := by simp [MapKept.IsKey]
/-- block g is a map from texts that tells f -/
def MapZ (g : Nat) (f : Int → Option Value) (w : World) : Prop := ∃ es clock, w.heap[g]? = some (.map es clock) ∧ (∀ x ∈ es.toList, MapKept.IsKey (.int .i64) x.key) ∧ (es.toList.map (·.key)).Nodup ∧
  (∀ e ∈ es.toList, ∀ s, e.key = zk s → f s = some e.val) ∧ ∀ s, (∀ e ∈ es.toList, e.key ≠ zk s) → f s = none
def mpZ (g : Nat) (f : Int → Option Value) : Asn := .any (fun k => k = g) (MapZ g f) (fun w w' hk ⟨es, clock, h1, h2⟩ => ⟨es, clock, by
  have hlt : g < w.heap.size := (Array.getElem?_eq_some_iff.1 h1).1
  rw [hk.block g rfl hlt]; exact h1, h2⟩)
section
variable {P : Program} {ro : Option Nat} {ds : List Deferred} {B : Bk ro ds} {n : Nat} {w0 : World} {M : Nat → Prop} {k : List It} {T : Slots} {H Hr : List Asn} {dd : Option Tmp} {tt : TypeId} {pos : String} {af : Array Edge} {g : Option (Nat × Bool)} {x y z : Operand} {ts : Array TypeId}
theorem E_mkmapZ {t : TypeId} : Ef P n w0 M T H ⟨dd, .makeMap t none, tt, pos, af, g⟩ (fun u H' => ∃ b, u = .map (some b) ∧ H' = mpZ b (fun _ => none) :: H) := .mk fun a w ha hS => by
  unfold Oper.wp
  have : (execOp a.eval ⟨dd, .makeMap t none, tt, pos, af, g⟩).run P w = .ok (.value (.map (some w.heap.size))) (w.alloc (.map #[] 0)) := by
    simp [execOp, Instr.makeMap]
  rw [this]
  refine ⟨_, _, ⟨w.heap.size, rfl, rfl⟩, rfl, hS.add (Kp.alloc w _) ⟨#[], 0, ?_, by simp, by simp, by simp, by simp⟩ (fun k hk => ?_)⟩
  · show (w.heap.push _)[w.heap.size]? = _
    simp
  · have hk : k = w.heap.size := hk
    subst hk
    simp
theorem E_mapsetZ [HasTab P] {t kt et : TypeId} {b : Nat} {f : Int → Option Value} {s : Int} {v : Value} {i ki : Ti} (hx : oget T x = some (.map (some b))) (hy : oget T y = some (zk s)) (hz : oget T z = some v) (ht : ty P t = some i) (hi : i.desc = .map kt et) (hk : ty P kt = some ki) (hki : ki.desc = .int .i64) [hr : RemC H (mpZ b f) Hr] :
    Ef P n w0 M T H ⟨none, .mapUpdate t x y z, tt, pos, af, g⟩ (fun _ H' => H' = mpZ b (fun r => if r = s then some v else f r) :: Hr) := .mk fun a w ha hS => by
  have hS1 := hS.perm hr.perm
  have hm : P.underlying t = some (.map kt et) := hi ▸ ty_ok ht
  have hd : P.underlying kt = some (.int .i64) := hki ▸ ty_ok hk
  obtain ⟨es, clock, hb, hks, hnd, hf1, hf2⟩ : MapZ b f w := hS1.at_ (A := mpZ b f) (by simp)
  have key : ∃ es' clock', (Instr.mapUpdate t (.map (some b)) (zk s) v).run P w = .ok () { w with heap := w.heap.setIfInBounds b (.map es' clock') } ∧ (∀ x ∈ es'.toList, MapKept.IsKey (.int .i64) x.key) ∧ (es'.toList.map (·.key)).Nodup ∧
      (∀ e ∈ es'.toList, ∀ r, e.key = zk r → (if r = s then some v else f r) = some e.val) ∧ ∀ r, (∀ e ∈ es'.toList, e.key ≠ zk r) → (if r = s then some v else f r) = none := by
    rcases MapKept.findNow_spec (zk_key s) es.toList 0 hks with ⟨h1, h2⟩ | ⟨j, e, h1, h2, h3⟩
    · refine ⟨es.push { key := zk s, val := v, born := clock }, clock + 1, ?_, ?_, ?_, ?_, ?_⟩
      · simp [Instr.mapUpdate, run_underlying hm, MapKept.run_getObj_map hb, MapKept.run_checkKey hd (zk_key s), MapKept.run_findKey hd h1, MapKept.run_setObj_map _ hb, Result.andThen]
      · intro x hx
        simp only [Array.toList_push, List.mem_append, List.mem_singleton] at hx
        rcases hx with hx | rfl
        · exact hks x hx
        · exact zk_key s
      · simp only [Array.toList_push, List.map_append, List.map_cons, List.map_nil]
        rw [List.nodup_append]
        refine ⟨hnd, by simp, fun x hx y hy => ?_⟩
        obtain ⟨e, he, rfl⟩ := List.mem_map.1 hx
        simp at hy
        subst hy
        exact h2 e he
      · intro e he r hr
        simp only [Array.toList_push, List.mem_append, List.mem_singleton] at he
        rcases he with he | rfl
        · have hne : r ≠ s := fun q => h2 e he (by rw [hr, q])
          rw [if_neg hne]
          exact hf1 e he r hr
        · rw [if_pos (zk_inj hr).symm]
      · intro r hr
        simp only [Array.toList_push, List.mem_append, List.mem_singleton] at hr
        have hne : r ≠ s := fun q => hr _ (.inr rfl) (by rw [q])
        rw [if_neg hne]
        exact hf2 r fun e he => hr e (.inl he)
    · have hj : es[j]? = some e := by simpa using h2
      have hjl : j < es.size := (Array.getElem?_eq_some_iff.1 hj).1
      have hml : ∀ y, y ∈ (es.modify j fun e => { e with key := zk s, val := v }).toList → (y.key = zk s ∧ y.val = v) ∨ (y ∈ es.toList ∧ y.key ≠ zk s) := fun y hy => by
        obtain ⟨q, hq, rfl⟩ := List.getElem_of_mem hy
        have hq : q < es.size := by simpa using hq
        simp only [Array.getElem_toList, Array.getElem_modify]
        split
        · exact .inl ⟨rfl, rfl⟩
        · rename_i hjq
          refine .inr ⟨Array.getElem_mem_toList hq, fun hk => ?_⟩
          have h4 := List.pairwise_iff_getElem.1 hnd
          have e1 : es[j] = e := (Array.getElem?_eq_some_iff.1 hj).2
          have h5 : (es.toList.map (·.key))[q]'(by simpa using hq) = (es.toList.map (·.key))[j]'(by simpa using hjl) := by simp [hk, e1, h3]
          rcases Nat.lt_trichotomy q j with h6 | h6 | h6
          · exact h4 q j (by simpa using hq) (by simpa using hjl) h6 h5
          · exact hjq h6.symm
          · exact h4 j q (by simpa using hjl) (by simpa using hq) h6 h5.symm
      have hke : ((es.modify j fun e => { e with key := zk s, val := v }).toList.map (·.key)) = es.toList.map (·.key) := by
        apply List.ext_getElem
        · simp
        · intro q h5 h6
          have hq : q < es.size := by simpa using h6
          simp only [List.getElem_map, Array.getElem_toList, Array.getElem_modify]
          split
          · rename_i hjq
            subst hjq
            have e1 : es[j] = e := (Array.getElem?_eq_some_iff.1 hj).2
            rw [e1, h3]
          · rfl
      refine ⟨es.modify j fun e => { e with key := zk s, val := v }, clock, ?_, ?_, ?_, ?_, ?_⟩
      · simp [Instr.mapUpdate, run_underlying hm, MapKept.run_getObj_map hb, MapKept.run_checkKey hd (zk_key s), MapKept.run_findKey hd h1, hj, h3, MapKept.run_keyThatStays (zk_key s), MapKept.run_setObj_map _ hb, Result.andThen]
      · intro y hy
        rcases hml y hy with ⟨h4, _⟩ | ⟨h4, _⟩
        · rw [h4]; exact zk_key s
        · exact hks y h4
      · rw [hke]; exact hnd
      · intro y hy r hr
        rcases hml y hy with ⟨h4, h5⟩ | ⟨h4, h5⟩
        · rw [if_pos (zk_inj (h4.symm.trans hr)).symm, h5]
        · rw [if_neg (fun q => h5 (by rw [hr, q]))]
          exact hf1 y h4 r hr
      · intro r hr
        have hr2 : ∀ k, k ∈ es.toList.map (·.key) → k ≠ zk r := fun k hk => by
          rw [← hke] at hk
          obtain ⟨y, hy, rfl⟩ := List.mem_map.1 hk
          exact hr y hy
        have hne : r ≠ s := fun q => hr2 (zk s) (List.mem_map.2 ⟨e, List.mem_of_getElem? h2, h3⟩) (by rw [q])
        rw [if_neg hne]
        exact hf2 r fun e' he' => hr2 _ (List.mem_map_of_mem he')
  obtain ⟨es', clock', hrun, k1, k2, k3, k4⟩ := key
  have hlt : b < w.heap.size := (Array.getElem?_eq_some_iff.1 hb).1
  unfold Oper.wp
  have : (execOp a.eval ⟨none, .mapUpdate t x y z, tt, pos, af, g⟩).run P w = .ok .skip { w with heap := w.heap.setIfInBounds b (.map es' clock') } := by
    simp [execOp, ha.eval hx, ha.eval hy, ha.eval hz, hrun]
  rw [this]
  refine ⟨undef, _, rfl, rfl, hS1.upd (A := mpZ b f) .here ⟨rfl, rfl, rfl, by simp, fun q hq hlt => ?_⟩ ⟨es', clock', by simp [hlt], k1, k2, k3, k4⟩ (fun _ h => h)⟩
  have hq : ¬ q = b := hq
  simp [Ne.symm hq]
theorem T_mapgetZ [HasTab P] {t kt et : TypeId} {b : Nat} {f : Int → Option Value} {s : Int} {v : Value} {i ki ei : Ti} (hx : oget T x = some (.map (some b))) (hy : oget T y = some (zk s)) (ht : ty P t = some i) (hi : i.desc = .map kt et) (hk : ty P kt = some ki) (hki : ki.desc = .int .i64) (he : ty P et = some ei) [hr : RemC H (mpZ b f) Hr] (hv : (f s).getD ei.zero = v) :
    Tk P n w0 M T H ⟨dd, .lookup t x y false, tt, pos, af, g⟩ v := .mk fun a w ha hS => by
  subst hv
  have hS1 := hS.perm hr.perm
  have hm : P.underlying t = some (.map kt et) := hi ▸ ty_ok ht
  have hd : P.underlying kt = some (.int .i64) := hki ▸ ty_ok hk
  obtain ⟨es, clock, hb, hks, hnd, hf1, hf2⟩ : MapZ b f w := hS1.at_ (A := mpZ b f) (by simp)
  rcases MapKept.findNow_spec (zk_key s) es.toList 0 hks with ⟨h1, h2⟩ | ⟨j, e, h1, h2, h3⟩
  · rw [hf2 s h2]
    simp [execOp, ha.eval hx, ha.eval hy, Instr.lookup, run_underlying hm, MapKept.run_getObj_map hb, MapKept.run_checkKey hd (zk_key s), MapKept.run_findKey hd h1, ty_zero he, Result.andThen]
  · rw [hf1 e (List.mem_of_getElem? h2) s h3]
    simp [execOp, ha.eval hx, ha.eval hy, Instr.lookup, run_underlying hm, MapKept.run_getObj_map hb, MapKept.run_checkKey hd (zk_key s), MapKept.run_findKey hd h1, Result.andThen]
end
end Go.Proofs.YtdeffdldifepkaaGreat
namespace Go.Proofs.YtdeffdldifepkaaGreat
open Go.RowKit
open Asn (pt row rb)
set_option linter.unusedVariables false
set_option linter.unusedSimpArgs false
--@use N

/-- another server: who, the next index, the last one that matches -/
abbrev Pe := Int × Nat × Nat
/-- what a server says -/
structure Rs where
  me : Int
  term : Nat
  vote : Int
  base : At
  es : List En
  cf : List Int
  commit : Nat
  role : Int
  leader : Int
  clock : Int
  limit : Int
  votes : List Int
  peers : List Pe
/-- where it lies -/
structure Rp where
  A : Option Addr
  n : Nat
  c : Nat
  Q : List Em
  cA : Option Addr
  cn : Nat
  cc : Nat
  vA : Option Addr
  vn : Nat
  vc : Nat
  pA : Option Addr
  pn : Nat
  pc : Nat
def pec (p : Pe) : List Value := [.int .i64 p.1, .int .u64 (p.2.1 : Int), .int .u64 (p.2.2 : Int)]
theorem pec_len (p : Pe) : (pec p).length = 3 := rfl
theorem pec_one (p : Pe) : ∀ u ∈ pec p, u.oneCell' = true := by simp [pec, Value.oneCell']
def rfc (x : Rs) (p : Rp) : List Value := [.int .i64 x.me, .int .u64 (x.term : Int), .int .i64 x.vote, .int .u64 (x.base.1 : Int), .int .u64 (x.base.2 : Int), .slice p.A p.n p.c, .slice p.cA p.cn p.cc, .int .u64 (x.commit : Int), .int .i64 x.role, .int .i64 x.leader, .int .i64 x.clock, .int .i64 x.limit, .slice p.vA p.vn p.vc, .slice p.pA p.pn p.pc]
theorem rfc_one (x : Rs) (p : Rp) : ∀ u ∈ rfc x p, u.oneCell' = true := by simp [rfc, Value.oneCell']
def rs0 : Rs := ⟨0, 0, 0, (0, 0), [], [], 0, 0, 0, 0, 0, [], []⟩
def rp0 : Rp := ⟨none, 0, 0, [], none, 0, 0, none, 0, 0, none, 0, 0⟩
theorem rf_zero : ti42.zero = .agg (rfc rs0 rp0).toArray := by kernel_rfl
theorem rf_built0 : Tryz.prog.built 42 [] = some (rfc rs0 rp0).toArray := by kernel_rfl
/-- its log, and its first members, can be read there -/
structure LgR (w : World) (x : Rs) (p : Rp) : Prop where
  hn : p.Q.length = p.n
  hm : p.n ≤ 1000
  hc : p.n ≤ p.c
  hQ : p.Q.map emv = x.es
  rq : Rd w All 3 p.A p.n (cellsL emc p.Q)
  bq : ∀ m ∈ p.Q, BsM w m
  hd : ∀ m ∈ p.Q, m.2.2.2.2.length ≤ 100000
  hcn : x.cf.length = p.cn
  hcm : p.cn ≤ 900
  rc : Rd w All 1 p.cA p.cn (x.cf.map zv)
/-- its numbers are of 64 bits -/
structure RsU (x : Rs) : Prop where
  tm : x.term < 18446744073709551616
  b1 : x.base.1 < 18446744073709551616
  b2 : x.base.2 < 18446744073709551616
  cm : x.commit < 18446744073709551616
  pe : ∀ p ∈ x.peers, p.2.1 < 18446744073709551616 ∧ p.2.2 < 18446744073709551616
/-- all of it can be read there -/
structure RfR (w : World) (x : Rs) (p : Rp) : Prop where
  lg : LgR w x p
  hvn : x.votes.length = p.vn
  hvm : p.vn ≤ 900
  rv : Rd w All 1 p.vA p.vn (x.votes.map zv)
  hpn : x.peers.length = p.pn
  hpm : p.pn ≤ 900
  rp : Rd w All 3 p.pA p.pn (cellsL pec x.peers)
  hu : RsU x
theorem LgR.keep {w w' : World} {x : Rs} {p : Rp} (h : LgR w x p) (hk : Kp All w w') : LgR w' x p := ⟨h.hn, h.hm, h.hc, h.hQ, h.rq.keep hk, fun m hm => Bs.keep (h.bq m hm) hk, h.hd, h.hcn, h.hcm, h.rc.keep hk⟩
theorem RfR.keep {w w' : World} {x : Rs} {p : Rp} (h : RfR w x p) (hk : Kp All w w') : RfR w' x p := ⟨h.lg.keep hk, h.hvn, h.hvm, h.rv.keep hk, h.hpn, h.hpm, h.rp.keep hk, h.hu⟩
theorem LgR.ln {w : World} {x : Rs} {p : Rp} (h : LgR w x p) : x.es.length = p.n := by rw [← h.hQ, List.length_map, h.hn]
theorem LgR.dt {w : World} {x : Rs} {p : Rp} (h : LgR w x p) : RDt w All (p.Q.map emd) := fun d hd => by
  obtain ⟨m, hm, rfl⟩ := List.mem_map.1 hd
  exact (h.bq m hm).rd
/-- the log and the members of another server that has the same ones -/
theorem LgR.like {w : World} {x y : Rs} {p q : Rp} (h : LgR w x p) (h1 : y.es = x.es) (h2 : y.cf = x.cf) (h3 : q.Q = p.Q) (h4 : q.n = p.n) (h5 : q.c = p.c) (h6 : q.A = p.A) (h7 : q.cA = p.cA) (h8 : q.cn = p.cn) : LgR w y q :=
  ⟨by rw [h3, h4]; exact h.hn, by rw [h4]; exact h.hm, by rw [h4, h5]; exact h.hc, by rw [h3, h1]; exact h.hQ, by rw [h3, h4, h6]; exact h.rq, by rw [h3]; exact h.bq, by rw [h3]; exact h.hd, by rw [h2, h8]; exact h.hcn, by rw [h8]; exact h.hcm, by rw [h2, h7, h8]; exact h.rc⟩
/-! what there is to tell of a server -/
/-- the last place -/
def lastP (x : Rs) : At := if rightB x.base x.es = true then lastA x.base x.es else (0, 0)
/-- may the members be that bytes say? -/
def saysB (d : List UInt8) : Bool := decide (C.decE d = 0)
def soundB (l : List En) : Bool := l.all fun e => !(decide (e.2.1 = 3) && !saysB e.2.2)
def srvB (n : Int) : Bool := decide (1 ≤ n) && decide (n ≤ 5)
def risG : Int → List Int → Bool
  | _, [] => true
  | p, n :: l => srvB n && decide (p < n) && risG n l
def risB (l : List Int) : Bool := risG 0 l
/-- all servers but one -/
def othL (me : Int) : List Int := [1, 2, 3, 4, 5].filter fun n => !decide (n = me)
def prsG (last : Nat) : List Pe → List Int → Bool
  | [], [] => true
  | p :: l, n :: m => decide (p.1 = n) && decide (1 ≤ p.2.1) && decide (p.2.1 ≤ last + 1) && decide (p.2.2 < p.2.1) && prsG last l m
  | _, _ => false
/-- may what hangs on the role be? -/
def roleB (x : Rs) (last : Nat) : Bool :=
  decide (1 ≤ x.role) && decide (x.role ≤ 4) && (decide (x.role = 4) == decide (x.leader = x.me)) && !((decide (x.role = 3) || decide (x.role = 2)) && !decide (x.leader = 0)) &&
  (!(decide (x.role = 3) || decide (x.role = 4)) || (decide (x.vote = x.me) && !decide (x.term = 0))) &&
  (if x.role = 3 ∨ x.role = 2 then risB x.votes && decide (x.me ∈ x.votes) else decide (x.votes.length = 0)) &&
  (if x.role = 4 then prsG last x.peers (othL x.me) else decide (x.peers.length = 0))
/-- may a server be? -/
def checkB (x : Rs) : Bool :=
  srvB x.me && decide (x.term ≤ 4611686018427387904) && decide (0 ≤ x.vote) && decide (x.vote ≤ 5) && decide (0 ≤ x.leader) && decide (x.leader ≤ 5) && decide (chkE x.base x.es x.term = 0) && C.right x.cf && soundB x.es &&
  decide (x.base.1 ≤ x.commit) && decide (x.commit ≤ (lastP x).1) && decide (4 ≤ x.limit) && decide (x.limit ≤ 16) && decide (0 ≤ x.clock) && decide (x.clock ≤ x.limit) && roleB x (lastP x).1
/-- the members in force, up to an index -/
def forceL (x : Rs) (idx : Nat) : List Int := if (confR x.base x.es idx).2.2 = true then C.decL (confR x.base x.es idx).2.1 else x.cf
def nowL (x : Rs) : List Int := forceL x (lastP x).1
/-- a message without anything -/
def ms0 : Ms := ⟨0, 0, 0, 0, (0, 0), [], 0, false, 0, [], []⟩
/-- the members in force but this one -/
def felL (x : Rs) : List Int := (nowL x).filter fun n => !decide (n = x.me)
/-- it stands -/
def stdX (x : Rs) : Rs := { x with term := x.term + 1, role := 3, vote := x.me, votes := [x.me], leader := 0 }
/-- it asks -/
def askX (x : Rs) : Rs := { x with role := 2, votes := [x.me], leader := 0 }
/-! what a message brings -/
def vtsL (l : List Int) (n : Int) : List Int := if n ∈ l then l else l.take (C.cut l n) ++ n :: l.drop (C.cut l n)
end Go.Proofs.YtdeffdldifepkaaGreat
namespace Go.Proofs.YtdeffdldifepkaaGreat
open Go.RowKit
open Asn (pt row rb)
set_option linter.unusedVariables false
set_option linter.unusedSimpArgs false
--@use N

set_option maxRecDepth 100000 in
set_option maxHeartbeats 4000000 in
theorem rserver_any (w : World) (n : Int) (r : Bool) (hr : srvB n = r) :
    Gives Tryz.prog 93 [.int .i64 n] [] w (X := Unit) (fun _ => .bool r) (fun _ => True) (fun _ => []) := by
  refine gives_S Tryz.func93 rfl Tryz.ntmps93 Tryz.results93 (by simp) (St.enter w) (fun B hB => ?_)
  subst hr
  unfold srvB at hB
  by_cases h1 : 1 ≤ n
  · by_cases h2 : n ≤ 5
    · rw [decide_eq_true h1, decide_eq_true h2] at hB
      focus (refine qs ?_; refine qp ?_; refine qn ?_; (iterate 2 refine qp ?_; refine qd ?_; refine qp ?_); refine qp ?_; refine qz ?_)
      exact hB _ _ _ _ _ rfl rfl fun w' hS => ⟨(), rfl, trivial, hS.sublist (List.nil_sublist _)⟩
    · rw [decide_eq_true h1, decide_eq_false h2] at hB
      focus (refine qs ?_; refine qp ?_; refine qn ?_; refine qp ?_; refine qd ?_; refine qp ?_; refine qp ?_; refine qf ?_; refine qp ?_; refine qp ?_; refine qz ?_)
      exact hB _ _ _ _ _ rfl rfl fun w' hS => ⟨(), rfl, trivial, hS.sublist (List.nil_sublist _)⟩
  · rw [decide_eq_false h1, Bool.false_and] at hB
    focus (refine qs ?_; refine qp ?_; refine qn ?_; refine qp ?_; refine qf ?_; refine qp ?_; refine qk ?_; refine qk ?_; refine qp ?_; refine qp ?_; refine qz ?_)
    exact hB _ _ _ _ _ rfl rfl fun w' hS => ⟨(), rfl, trivial, hS.sublist (List.nil_sublist _)⟩
theorem dec_k (w : World) (A : Option Addr) (n c : Nat) (l : List UInt8) (h : Bs w All A n c l) (hn : n ≤ 100000) (e : Int) (he : C.decE l = e) (ms : List Int) (hm : C.decL l = ms) (K : Nat) (hK : ms.length = K) :
    Gives Tryz.prog 120 [.slice A n c] [] w (X := Option Addr × Nat) (fun x => .tuple #[C.cfv x.1 K x.2, .int .i64 e]) (fun _ => True) (fun x => [row 3 1 x.1 K x.2 (ms.map zv)]) := by
  subst hK
  subst hm
  subst he
  exact C.dec_any w A n c l h hn
set_option maxRecDepth 100000 in
set_option maxHeartbeats 4000000 in
theorem rsays_any (w : World) (m : Em) (h : BsM w m) (hn : m.2.2.2.2.length ≤ 100000) (q : Bool) (hq : saysB m.2.2.2.2 = q) (ms : List Int) (hm : C.decL m.2.2.2.2 = ms) (K : Nat) (hK : ms.length = K) :
    Gives Tryz.prog 48 [.agg (emc m).toArray] [] w (X := Option Addr × Nat) (fun x => .tuple #[C.cfv x.1 K x.2, .bool q]) (fun _ => True) (fun x => [row 3 1 x.1 K x.2 (ms.map zv)]) := by
  refine gives_C Tryz.func48 rfl Tryz.ntmps48 Tryz.results48 (by simp) (St.enter w) (fun B hB => ?_)
  obtain ⟨t, k, A, c, l⟩ := m
  dsimp only at hn hq hm
  have h : Bs w All A l.length c l := h
  obtain ⟨e, he⟩ : ∃ e, C.decE l = e := ⟨_, rfl⟩
  have hq : decide (e = 0) = q := by rw [← hq, saysB, he]
  focus (refine qs ?_; (refine qe (E_boxa (cs := emc (t, k, A, c, l)) rfl) ?_; rintro _ _ ⟨b1, rfl, rfl⟩); (refine qe (E_alloca rfl C.cf_alloc) ?_; rintro _ _ ⟨b2, rfl, rfl⟩); refine qp ?_; refine qn ?_; refine qp ?_; refine qt (T_load rfl rfl rfl rfl) ?_; (refine qe (E_hv1 (f := 120) ⟨_, Tryz.func120, rfl, by kernel_rfl⟩ (fun w' hS => dec_k w' A l.length c l (Bs.keep h hS.kpO) hn e he ms hm K hK) rfl rfl (fun _ => rfl)) ?_; rintro _ _ ⟨⟨A3, c3⟩, rfl, _, rfl⟩); (iterate 3 refine qp ?_); (refine qe (E_alloca rfl C.cf_alloc) ?_; rintro _ _ ⟨b2, rfl, rfl⟩); (refine qw (E_storew (cs := [.slice none 0 0]) (ds := [.slice A3 K c3]) rfl rfl rfl rfl (C.sl_one _ _ _) rfl) ?_; rintro _ _ rfl); refine qp ?_; refine qn ?_; refine qt (T_loads (ds := [.slice A3 K c3]) rfl rfl rfl rfl rfl) ?_; refine qp ?_; refine qp ?_; (refine qw (E_storew (cs := [.slice none 0 0]) (ds := [.slice A3 K c3]) rfl rfl rfl rfl (C.sl_one _ _ _) rfl) ?_; rintro _ _ rfl); refine qp ?_; refine qz ?_)
  refine hB _ _ _ _ _ rfl (.cell rfl rfl rfl inferInstance rfl (.tmp rfl .nil)) fun w' hS => ⟨(A3, c3), ?_, trivial, sub_st (H' := [row 3 1 A3 K c3 (ms.map zv)]) w' hS⟩
  rw [← hq]
  rfl
theorem sound_take (Q : List Em) (j : Nat) (hj : j < Q.length) {m : Em} (hm : Q.getD j default = m) : soundB ((Q.take (j + 1)).map emv) = (soundB ((Q.take j).map emv) && !(decide (m.2.1 = 3) && !saysB m.2.2.2.2)) := by
  rw [emv_take Q j hj hm, soundB, List.all_append]
  simp [soundB, emv]
theorem sound_bad (Q : List Em) (j : Nat) (hj : j < Q.length) {m : Em} (hm : Q.getD j default = m) (h : (decide (m.2.1 = 3) && !saysB m.2.2.2.2) = true) : soundB (Q.map emv) = false := by
  rw [emv_drop Q j hj hm, soundB, List.all_append, List.all_cons]
  have : (!(decide ((emv m).2.1 = 3) && !saysB (emv m).2.2)) = false := by
    show (!(decide (m.2.1 = 3) && !saysB m.2.2.2.2)) = false
    rw [h]
    rfl
  rw [this, Bool.false_and, Bool.and_false]
set_option maxRecDepth 100000 in
set_option maxHeartbeats 4000000 in
theorem rsound_any (w : World) (A : Option Addr) (c k : Nat) (Q : List Em) (hk : Q.length = k) (h : Rd w All 3 A k (cellsL emc Q)) (hq : ∀ m ∈ Q, BsM w m) (hd : ∀ m ∈ Q, m.2.2.2.2.length ≤ 100000) (hn : k ≤ 100000) (r : Bool) (hr : soundB (Q.map emv) = r) :
    Gives Tryz.prog 96 [.slice A k c] [] w (X := Unit) (fun _ => .bool r) (fun _ => True) (fun _ => []) := by
  refine gives_S Tryz.func96 rfl Tryz.ntmps96 Tryz.results96 (by simp) (St.enter w) (fun B hB => ?_)
  subst hk
  have hne : 0 < Q.length → A ≠ none := fun h0 => by obtain ⟨ad, rfl, _⟩ := h.2 (by omega); simp
  focus (refine qs ?_; refine qp ?_; refine qz ?_; refine qq ?_; refine qs ?_; (iterate 3 refine qp ?_); refine qz ?_; refine qb ?_)
  refine S_loop (X := Nat) (fun j => [(7, .slice A Q.length c), (8, .int .i64 (Q.length : Int)), (9, .int .i64 (j : Int))]) (fun _ => []) (fun j => j ≤ Q.length ∧ soundB ((Q.take j).map emv) = true) (fun j => Q.length - j) rfl 0 ⟨Nat.zero_le _, rfl⟩ (Sub.cons rfl (Sub.cons rfl (Sub.cons rfl Sub.nil))) (fun _ h => h.sublist (List.nil_sublist _)) ?_
  rintro j ⟨hj, hok⟩ J hJ
  rcases Nat.lt_or_ge j Q.length with hjl | hjl
  · have hne := hne (by omega)
    have hat := cellsL_at (f := emc) emc_len Q default j hjl
    obtain ⟨m, hm⟩ : ∃ m, Q.getD j default = m := ⟨_, rfl⟩
    have hmem : m ∈ Q := by rw [← hm]; simp [List.getD, hjl]
    have hb := hq m hmem
    have hl := hd m hmem
    have hnx := sound_take Q j hjl hm
    have hbad := sound_bad Q j hjl hm
    rw [hok, Bool.true_and] at hnx
    rw [hm] at hat
    obtain ⟨q, hqq⟩ : ∃ q, saysB m.2.2.2.2 = q := ⟨_, rfl⟩
    obtain ⟨ms, hms⟩ : ∃ ms, C.decL m.2.2.2.2 = ms := ⟨_, rfl⟩
    obtain ⟨K, hK⟩ : ∃ K, ms.length = K := ⟨_, rfl⟩
    rw [hqq] at hnx hbad
    by_cases h3 : m.2.1 = 3
    · cases q
      · have hf := hbad (by rw [decide_eq_true h3]; rfl)
        rw [hr] at hf
        subst hf
        focus (refine qs ?_; refine qd ?_; refine qz ?_; refine qq ?_; refine qT ?_; refine qx ?_; refine qq ?_; refine qb ?_; refine qs ?_; refine qt (T_ixM (sz := 3) rfl rfl rfl rfl rfl rfl hne hjl) ?_; refine qt (T_lda (ds := emc m) rfl rfl rfl (Srd.old h (fun k _ => noOwns k)) rfl (by omega) hat) ?_; (refine qe (E_alloca rfl em_zero) ?_; rintro _ _ ⟨b4, rfl, rfl⟩); (refine qw (E_storew (cs := emc (0, 0, none, 0, [])) (ds := emc m) rfl rfl rfl rfl (emc_one _) rfl) ?_; rintro _ _ rfl); refine qn ?_; refine qt (T_loads (ds := emc m) rfl rfl rfl rfl rfl) ?_; (refine qe (E_hv1 (f := 48) ⟨_, Tryz.func48, rfl, by kernel_rfl⟩ (fun w' hS => rsays_any w' m (Bs.keep hb hS.kpO) hl _ hqq ms hms K hK) rfl rfl (fun _ => rfl)) ?_; rintro _ _ ⟨⟨A3, c3⟩, rfl, _, rfl⟩); (iterate 3 refine qp ?_); (refine qe (E_alloca rfl C.cf_alloc) ?_; rintro _ _ ⟨b5, rfl, rfl⟩); (refine qw (E_storew (cs := [.slice none 0 0]) (ds := [.slice A3 K c3]) rfl rfl rfl rfl (C.sl_one _ _ _) rfl) ?_; rintro _ _ rfl); refine qp ?_; refine qn ?_; refine qp ?_; refine qt (T_load rfl rfl rfl rfl) ?_; refine qd ?_; refine qd ?_; refine qp ?_; refine qt (T_not rfl) ?_; refine qd ?_; refine qz ?_; refine qT ?_; refine qs ?_; refine qp ?_; refine qz ?_)
        exact hB _ _ _ _ _ rfl rfl fun w' hS => ⟨(), rfl, trivial, hS.sublist (List.nil_sublist _)⟩
      · focus (refine qs ?_; refine qd ?_; refine qz ?_; refine qq ?_; refine qT ?_; refine qx ?_; refine qq ?_; refine qb ?_; refine qs ?_; refine qt (T_ixM (sz := 3) rfl rfl rfl rfl rfl rfl hne hjl) ?_; refine qt (T_lda (ds := emc m) rfl rfl rfl (Srd.old h (fun k _ => noOwns k)) rfl (by omega) hat) ?_; (refine qe (E_alloca rfl em_zero) ?_; rintro _ _ ⟨b4, rfl, rfl⟩); (refine qw (E_storew (cs := emc (0, 0, none, 0, [])) (ds := emc m) rfl rfl rfl rfl (emc_one _) rfl) ?_; rintro _ _ rfl); refine qn ?_; refine qt (T_loads (ds := emc m) rfl rfl rfl rfl rfl) ?_; (refine qe (E_hv1 (f := 48) ⟨_, Tryz.func48, rfl, by kernel_rfl⟩ (fun w' hS => rsays_any w' m (Bs.keep hb hS.kpO) hl _ hqq ms hms K hK) rfl rfl (fun _ => rfl)) ?_; rintro _ _ ⟨⟨A3, c3⟩, rfl, _, rfl⟩); refine qp ?_; refine qp ?_; refine qd ?_; (refine qe (E_alloca rfl C.cf_alloc) ?_; rintro _ _ ⟨b5, rfl, rfl⟩); (refine qw (E_storew (cs := [.slice none 0 0]) (ds := [.slice A3 K c3]) rfl rfl rfl rfl (C.sl_one _ _ _) rfl) ?_; rintro _ _ rfl); refine qd ?_; refine qn ?_; refine qp ?_; refine qt (T_load rfl rfl rfl rfl) ?_; (iterate 3 refine qd ?_); refine qt (T_not rfl) ?_; refine qp ?_; refine qz ?_; refine qF ?_; refine qx ?_; refine RS_blk ?_; refine qr ?_; refine qt (T_addN rfl rfl (by unfold fits; omega)) ?_; refine qp ?_; refine qz ?_)
        exact hJ (j + 1) _ _ ⟨by omega, by rw [hnx]; simp⟩ (Sub.cons rfl (Sub.cons rfl (Sub.cons rfl Sub.nil))) (fun _ h => h.sublist (List.nil_sublist _)) (by omega)
    · focus (refine qs ?_; refine qd ?_; refine qz ?_; refine qq ?_; refine qT ?_; refine qx ?_; refine qq ?_; refine qb ?_; refine qs ?_; refine qt (T_ixM (sz := 3) rfl rfl rfl rfl rfl rfl hne hjl) ?_; refine qt (T_lda (ds := emc m) rfl rfl rfl (Srd.old h (fun k _ => noOwns k)) rfl (by omega) hat) ?_; (refine qe (E_alloca rfl em_zero) ?_; rintro _ _ ⟨b4, rfl, rfl⟩); (refine qw (E_storew (cs := emc (0, 0, none, 0, [])) (ds := emc m) rfl rfl rfl rfl (emc_one _) rfl) ?_; rintro _ _ rfl); refine qn ?_; refine qt (T_loads (ds := emc m) rfl rfl rfl rfl rfl) ?_; (refine qe (E_hv1 (f := 48) ⟨_, Tryz.func48, rfl, by kernel_rfl⟩ (fun w' hS => rsays_any w' m (Bs.keep hb hS.kpO) hl _ hqq ms hms K hK) rfl rfl (fun _ => rfl)) ?_; rintro _ _ ⟨⟨A3, c3⟩, rfl, _, rfl⟩); (iterate 3 refine qp ?_); (refine qe (E_alloca rfl C.cf_alloc) ?_; rintro _ _ ⟨b5, rfl, rfl⟩); (refine qw (E_storew (cs := [.slice none 0 0]) (ds := [.slice A3 K c3]) rfl rfl rfl rfl (C.sl_one _ _ _) rfl) ?_; rintro _ _ rfl); refine qp ?_; refine qn ?_; refine qp ?_; refine qt (T_load rfl rfl rfl rfl) ?_; refine qf ?_; refine qp ?_; refine qk ?_; refine qk ?_; refine qp ?_; refine qz ?_; refine qF ?_; refine qx ?_; refine RS_blk ?_; refine qr ?_; refine qt (T_addN rfl rfl (by unfold fits; omega)) ?_; refine qp ?_; refine qz ?_)
      exact hJ (j + 1) _ _ ⟨by omega, by rw [hnx, decide_eq_false h3]; rfl⟩ (Sub.cons rfl (Sub.cons rfl (Sub.cons rfl Sub.nil))) (fun _ h => h.sublist (List.nil_sublist _)) (by omega)
  have hjn : j = Q.length := by omega
  subst hjn
  rw [List.take_length, hr] at hok
  subst hok
  focus (refine qs ?_; refine qf ?_; refine qz ?_; refine qq ?_; refine qF ?_; refine S_exit rfl rfl ?_; refine qs ?_; refine qp ?_; refine qz ?_)
  exact hB _ _ _ _ _ rfl rfl fun w' hS => ⟨(), rfl, trivial, hS.sublist (List.nil_sublist _)⟩
/-- numbers of servers that rise -/
theorem risG_app : ∀ (l : List Int) (p n : Int), risG p (l ++ [n]) = (risG p l && srvB n && decide ((l.getLast?.getD p) < n))
  | [], p, n => by
    show (srvB n && decide (p < n) && true) = (true && srvB n && decide (p < n))
    rw [Bool.and_true, Bool.true_and]
  | x :: l, p, n => by
    have ih := risG_app l x n
    simp only [List.cons_append, risG, ih, List.getLast?_cons, Option.getD_some]
    simp only [Bool.and_assoc]
theorem risG_pre : ∀ (l m : List Int) (p : Int), risG p (l ++ m) = true → risG p l = true
  | [], _, _, _ => rfl
  | x :: l, m, p, h => by
    simp only [List.cons_append, risG, Bool.and_eq_true] at h ⊢
    exact ⟨h.1, risG_pre l m x h.2⟩
theorem ris_next (l : List Int) (j : Nat) (hj : j < l.length) : risB (l.take (j + 1)) = (risB (l.take j) && srvB (l.getD j 0) && (decide (j = 0) || decide (l.getD (j - 1) 0 < l.getD j 0))) := by
  have e : l.take (j + 1) = l.take j ++ [l.getD j 0] := by rw [List.take_succ_eq_append_getElem hj]; simp [List.getD, hj]
  rw [risB, e, risG_app, risB]
  rcases Nat.eq_zero_or_pos j with h0 | h0
  · subst h0
    cases hs : srvB (l.getD 0 0)
    · simp
    · have : 0 < l.getD 0 0 := by simp only [srvB, Bool.and_eq_true, decide_eq_true_eq] at hs; omega
      simp only [List.take_zero, List.getLast?_nil, Option.getD_none, this, decide_true, Bool.and_true, Bool.true_or]
  · have : (l.take j).getLast?.getD 0 = l.getD (j - 1) 0 := by
      rw [List.getLast?_eq_getElem?, List.length_take, Nat.min_eq_left (by omega), List.getElem?_take, if_pos (by omega), List.getD]
    rw [this, decide_eq_false (show ¬ j = 0 by omega), Bool.false_or]
theorem ris_bad (l : List Int) (j : Nat) (hj : j < l.length) (h : risB (l.take (j + 1)) = false) : risB l = false := by
  rw [Bool.eq_false_iff] at h ⊢
  intro h2
  refine h (risG_pre _ (l.drop (j + 1)) 0 ?_)
  rw [List.take_append_drop]
  exact h2
set_option maxRecDepth 100000 in
set_option maxHeartbeats 4000000 in
theorem rrising_any (w : World) (A : Option Addr) (n c : Nat) (l : List Int) (h : Rd w All 1 A n (l.map zv)) (hn : n ≤ 100000) (r : Bool) (hr : risB l = r) :
    Gives Tryz.prog 157 [.slice A n c] [] w (X := Unit) (fun _ => .bool r) (fun _ => True) (fun _ => []) := by
  refine gives_S Tryz.func157 rfl Tryz.ntmps157 Tryz.results157 (by simp) (St.enter w) (fun B hB => ?_)
  have hl : l.length = n := by have := h.1; simpa using this
  have hne : 0 < n → A ≠ none := fun h0 => by obtain ⟨ad, rfl, _⟩ := h.2 (by omega); simp
  subst hl
  focus (refine qs ?_; refine qp ?_; refine qz ?_; refine qq ?_; refine qs ?_; (iterate 3 refine qp ?_); refine qz ?_; refine qb ?_)
  refine S_loop (X := Nat) (fun j => [(0, .slice A l.length c), (5, .slice A l.length c), (6, .int .i64 (l.length : Int)), (7, .int .i64 (j : Int))]) (fun _ => []) (fun j => j ≤ l.length ∧ risB (l.take j) = true) (fun j => l.length - j) rfl 0 ⟨Nat.zero_le _, rfl⟩ (Sub.cons rfl (Sub.cons rfl (Sub.cons rfl (Sub.cons rfl Sub.nil)))) (fun _ h => h.sublist (List.nil_sublist _)) ?_
  rintro j ⟨hj, hok⟩ J hJ
  rcases Nat.lt_or_ge j l.length with hjl | hjl
  · have hne := hne (by omega)
    have hat := zv_at (l := l) (j := j) hjl
    have hat2 := zv_at (l := l) (j := j - 1) (by omega)
    have hnx := ris_next l j hjl
    have hbad := ris_bad l j hjl
    rw [hr] at hbad
    rw [hok, Bool.true_and] at hnx
    obtain ⟨x, hx⟩ : ∃ x, l.getD j 0 = x := ⟨_, rfl⟩
    obtain ⟨y, hy⟩ : ∃ y, l.getD (j - 1) 0 = y := ⟨_, rfl⟩
    rw [hx] at hat hnx
    rw [hy] at hat2 hnx
    obtain ⟨q, hq⟩ : ∃ q, srvB x = q := ⟨_, rfl⟩
    rw [hq] at hnx
    cases q
    · obtain rfl : r = false := hbad (by rw [hnx]; rfl)
      focus (refine qs ?_; refine qd ?_; refine qz ?_; refine qq ?_; refine qT ?_; refine qx ?_; refine qq ?_; refine qb ?_; refine qs ?_; refine qp ?_; refine qt (T_ix1 rfl rfl rfl rfl rfl rfl hne hjl) ?_; refine qt (T_ldr (v := zv x) rfl rfl rfl (Srd.old h (fun k _ => noOwns k)) (by omega) hat) ?_; refine qp ?_; refine qp ?_; refine qn ?_; refine qp ?_; (refine qe (E_hv0 (f := 93) ⟨_, Tryz.func93, rfl, by kernel_rfl⟩ (fun w hS => rserver_any w x _ hq) rfl rfl (fun _ => rfl)) ?_; rintro _ _ ⟨_, rfl, _, rfl⟩); refine qt (T_not rfl) ?_; refine qd ?_; (iterate 11 refine qk ?_); refine qd ?_; refine qz ?_; refine qT ?_; refine qs ?_; refine qp ?_; refine qz ?_)
      exact hB _ _ _ _ _ rfl rfl fun w' hS => ⟨(), rfl, trivial, hS.sublist (List.nil_sublist _)⟩
    · by_cases h0 : j = 0
      · focus (refine qs ?_; refine qd ?_; refine qz ?_; refine qq ?_; refine qT ?_; refine qx ?_; refine qq ?_; refine qb ?_; refine qs ?_; refine qp ?_; refine qt (T_ix1 rfl rfl rfl rfl rfl rfl hne hjl) ?_; refine qt (T_ldr (v := zv x) rfl rfl rfl (Srd.old h (fun k _ => noOwns k)) (by omega) hat) ?_; refine qp ?_; refine qp ?_; refine qn ?_; refine qp ?_; (refine qe (E_hv0 (f := 93) ⟨_, Tryz.func93, rfl, by kernel_rfl⟩ (fun w hS => rserver_any w x _ hq) rfl rfl (fun _ => rfl)) ?_; rintro _ _ ⟨_, rfl, _, rfl⟩); refine qt (T_not rfl) ?_; refine qp ?_; refine qp ?_; refine qf ?_; refine qp ?_; (iterate 7 refine qk ?_); refine qp ?_; refine qp ?_; refine qz ?_; refine qF ?_; refine qx ?_; refine RS_blk ?_; refine qr ?_; refine qt (T_addN rfl rfl (by unfold fits; omega)) ?_; refine qp ?_; refine qz ?_)
        exact hJ (j + 1) _ _ ⟨by omega, by rw [hnx, decide_eq_true h0]; rfl⟩ (Sub.cons rfl (Sub.cons rfl (Sub.cons rfl (Sub.cons rfl Sub.nil)))) (fun _ h => h.sublist (List.nil_sublist _)) (by omega)
      · by_cases h1 : y < x
        · focus (refine qs ?_; refine qd ?_; refine qz ?_; refine qq ?_; refine qT ?_; refine qx ?_; refine qq ?_; refine qb ?_; refine qs ?_; refine qp ?_; refine qt (T_ix1 rfl rfl rfl rfl rfl rfl hne hjl) ?_; refine qt (T_ldr (v := zv x) rfl rfl rfl (Srd.old h (fun k _ => noOwns k)) (by omega) hat) ?_; refine qp ?_; refine qp ?_; refine qn ?_; refine qp ?_; (refine qe (E_hv0 (f := 93) ⟨_, Tryz.func93, rfl, by kernel_rfl⟩ (fun w hS => rserver_any w x _ hq) rfl rfl (fun _ => rfl)) ?_; rintro _ _ ⟨_, rfl, _, rfl⟩); refine qt (T_not rfl) ?_; refine qp ?_; refine qp ?_; refine qd ?_; refine qd ?_; refine qp ?_; refine qp ?_; refine qt (T_subN (p := j) (q := 1) rfl rfl (by omega) (by unfold fits; omega)) ?_; refine qt (T_ix1 (q := j - 1) rfl rfl rfl rfl rfl rfl hne (by omega)) ?_; refine qt (T_ldr (v := zv y) rfl rfl rfl (Srd.old h (fun k _ => noOwns k)) (by omega) hat2) ?_; refine qp ?_; refine qf ?_; refine qp ?_; refine qp ?_; refine qz ?_; refine qF ?_; refine qx ?_; refine RS_blk ?_; refine qr ?_; refine qt (T_addN rfl rfl (by unfold fits; omega)) ?_; refine qp ?_; refine qz ?_)
          exact hJ (j + 1) _ _ ⟨by omega, by rw [hnx, decide_eq_true h1]; simp⟩ (Sub.cons rfl (Sub.cons rfl (Sub.cons rfl (Sub.cons rfl Sub.nil)))) (fun _ h => h.sublist (List.nil_sublist _)) (by omega)
        · obtain rfl : r = false := hbad (by rw [hnx, decide_eq_false h0, decide_eq_false h1]; rfl)
          focus (refine qs ?_; refine qd ?_; refine qz ?_; refine qq ?_; refine qT ?_; refine qx ?_; refine qq ?_; refine qb ?_; refine qs ?_; refine qp ?_; refine qt (T_ix1 rfl rfl rfl rfl rfl rfl hne hjl) ?_; refine qt (T_ldr (v := zv x) rfl rfl rfl (Srd.old h (fun k _ => noOwns k)) (by omega) hat) ?_; refine qp ?_; refine qp ?_; refine qn ?_; refine qp ?_; (refine qe (E_hv0 (f := 93) ⟨_, Tryz.func93, rfl, by kernel_rfl⟩ (fun w hS => rserver_any w x _ hq) rfl rfl (fun _ => rfl)) ?_; rintro _ _ ⟨_, rfl, _, rfl⟩); refine qt (T_not rfl) ?_; refine qp ?_; refine qp ?_; refine qd ?_; refine qd ?_; refine qp ?_; refine qp ?_; refine qt (T_subN (p := j) (q := 1) rfl rfl (by omega) (by unfold fits; omega)) ?_; refine qt (T_ix1 (q := j - 1) rfl rfl rfl rfl rfl rfl hne (by omega)) ?_; refine qt (T_ldr (v := zv y) rfl rfl rfl (Srd.old h (fun k _ => noOwns k)) (by omega) hat2) ?_; refine qp ?_; (iterate 3 refine qd ?_); refine qz ?_; refine qT ?_; refine qs ?_; refine qp ?_; refine qz ?_)
          exact hB _ _ _ _ _ rfl rfl fun w' hS => ⟨(), rfl, trivial, hS.sublist (List.nil_sublist _)⟩
  have hjn : j = l.length := by omega
  subst hjn
  rw [List.take_length, hr] at hok
  subst hok
  focus (refine qs ?_; refine qf ?_; refine qz ?_; refine qq ?_; refine qF ?_; refine S_exit rfl rfl ?_; refine qs ?_; refine qp ?_; refine qz ?_)
  exact hB _ _ _ _ _ rfl rfl fun w' hS => ⟨(), rfl, trivial, hS.sublist (List.nil_sublist _)⟩
def othK (me : Int) (j : Nat) : List Int := ([1, 2, 3, 4, 5].take j).filter fun n => !decide (n = me)
theorem oth_next (me : Int) (j : Nat) (hj : j < 5) : othK me (j + 1) = othK me j ++ (if ((j : Int) + 1) = me then [] else [(j : Int) + 1]) := by
  by_cases hm : me = 1 ∨ me = 2 ∨ me = 3 ∨ me = 4 ∨ me = 5
  · rcases hm with rfl | rfl | rfl | rfl | rfl <;> (rcases (by omega : j = 0 ∨ j = 1 ∨ j = 2 ∨ j = 3 ∨ j = 4) with rfl | rfl | rfl | rfl | rfl <;> rfl)
  · have e : ∀ k, othK me k = [1, 2, 3, 4, 5].take k := fun k => by
      unfold othK
      rw [List.filter_eq_self]
      intro n hn
      have := List.mem_of_mem_take hn
      simp only [List.mem_cons, List.not_mem_nil, or_false] at this
      simp only [Bool.not_eq_true', decide_eq_false_iff_not]
      omega
    rw [e, e, if_neg (by omega)]
    rcases (by omega : j = 0 ∨ j = 1 ∨ j = 2 ∨ j = 3 ∨ j = 4) with rfl | rfl | rfl | rfl | rfl <;> rfl
theorem othK_len (me : Int) (j : Nat) : (othK me j).length ≤ 5 := by
  unfold othK
  refine Nat.le_trans (List.length_filter_le _ _) ?_
  rw [List.length_take]
  exact Nat.min_le_right _ _
theorem oth_len (me : Int) : (othL me).length ≤ 5 := othK_len me 5
set_option maxRecDepth 100000 in
set_option maxHeartbeats 4000000 in
theorem others_any (w : World) (me : Int) (l : List Int) (hl : othL me = l) (K : Nat) (hK : l.length = K) :
    Gives Tryz.prog 159 [.int .i64 me] [] w (X := Option Addr × Nat) (fun x => .slice x.1 K x.2) (fun _ => True) (fun x => [row 3 1 x.1 K x.2 (l.map zv)]) := by
  refine gives_S Tryz.func159 rfl Tryz.ntmps159 Tryz.results159 (by simp) (St.enter w) (fun B hB => ?_)
  subst hK
  subst hl
  focus (refine qs ?_; refine qp ?_; refine qn ?_; refine qp ?_; refine qz ?_; refine qq ?_; refine qs ?_; refine qp ?_; refine qz ?_; refine qb ?_)
  refine S_loop (X := Nat × Option Addr × Nat) (fun z => [(0, .int .i64 me), (3, .slice z.2.1 (othK me z.1).length z.2.2), (5, .int .i64 (z.1 : Int))]) (fun z => [row 3 1 z.2.1 (othK me z.1).length z.2.2 ((othK me z.1).map zv)]) (fun z => z.1 ≤ 5) (fun z => 5 - z.1) rfl (0, none, 0) (Nat.zero_le _) (Sub.cons rfl (Sub.cons rfl (Sub.cons rfl Sub.nil))) (fun _ h => (h.sublist (List.nil_sublist _)).nilrow _ _) ?_
  rintro ⟨j, A, c⟩ hj J hJ
  dsimp only at hj ⊢
  have hlen := othK_len me j
  rcases Nat.lt_or_ge j 5 with hjl | hjl
  · have hnx := oth_next me j hjl
    obtain ⟨k, hk⟩ : ∃ k, (othK me j).length = k := ⟨_, rfl⟩
    rw [hk] at hlen ⊢
    by_cases hm : (j : Int) + 1 = me
    · rw [if_pos hm, List.append_nil] at hnx
      focus (refine qs ?_; refine qd ?_; refine qz ?_; refine qq ?_; refine qT ?_; refine qx ?_; refine qq ?_; refine qb ?_; refine qs ?_; refine qp ?_; refine qp ?_; refine qn ?_; refine qp ?_; refine qt (T_addN rfl rfl (by unfold fits; omega)) ?_; refine qp ?_; refine qf ?_; refine qz ?_; refine qF ?_; refine qx ?_; refine RS_blk ?_; refine qr ?_; refine qt (T_addN rfl rfl (by unfold fits; omega)) ?_; refine qp ?_; refine qz ?_)
      exact hJ (j + 1, A, c) _ _ (by show j + 1 ≤ 5; omega) (by rw [hnx, hk]; exact (Sub.cons rfl (Sub.cons rfl (Sub.cons rfl Sub.nil)))) (by rw [hnx, hk]; exact sub_st) (by show 5 - (j + 1) < 5 - j; omega)
    · rw [if_neg hm] at hnx
      focus (refine qs ?_; refine qd ?_; refine qz ?_; refine qq ?_; refine qT ?_; refine qx ?_; refine qq ?_; refine qb ?_; refine qs ?_; refine qp ?_; refine qp ?_; refine qn ?_; refine qp ?_; refine qt (T_addN rfl rfl (by unfold fits; omega)) ?_; refine qp ?_; refine qd ?_; refine qz ?_; refine qT ?_; refine qr ?_; refine qp ?_; refine qp ?_; refine qt (T_addN rfl rfl (by unfold fits; omega)) ?_; (refine qe (E_lit1 (m := 1) (vs := [zv ((j : Int) + 1)]) rfl rfl rfl rfl rfl rfl rfl (by simp [zv, Value.oneCell']) (by decide)) ?_; rintro _ _ ⟨bm, rfl, rfl⟩); (refine qe (E_app1 rfl rfl rfl rfl rfl rfl rfl (Srd.pt (ds := [zv ((j : Int) + 1)]) rfl (fun j u hj => by rw [Nat.zero_add]; exact hj)) (by simp [zv, Value.oneCell']) (by show _ * 8 ≤ _; omega) (by unfold maxLen; omega)) ?_; rintro _ _ ⟨A6, c6, rfl, rfl⟩); refine qp ?_; refine qz ?_; refine RS_blk ?_; refine qr ?_; refine qt (T_addN rfl rfl (by unfold fits; omega)) ?_; refine qp ?_; refine qz ?_)
      refine hJ (j + 1, A6, c6) _ _ (by show j + 1 ≤ 5; omega) ?_ (fun w' hS => ?_) (by show 5 - (j + 1) < 5 - j; omega)
      · rw [hnx, List.length_append, hk]
        exact (Sub.cons rfl (Sub.cons rfl (Sub.cons rfl Sub.nil)))
      · rw [hnx, List.length_append, hk, List.map_append]
        exact sub_st (H' := [row 3 1 A6 (k + 1) c6 ((othK me j).map zv ++ [zv ((j : Int) + 1)])]) w' hS
  obtain rfl : j = 5 := by omega
  focus (refine qs ?_; refine qf ?_; refine qz ?_; refine qq ?_; refine qF ?_; refine S_exit rfl rfl ?_; refine qs ?_; refine qp ?_; refine qp ?_; refine qz ?_)
  exact hB _ _ _ _ _ rfl rfl fun w' hS => ⟨(A, c), rfl, trivial, sub_st (H' := [row 3 1 A (othK me 5).length c ((othK me 5).map zv)]) w' hS⟩
end Go.Proofs.YtdeffdldifepkaaGreat
