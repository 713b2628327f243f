/- Nets: the document's Right. -/
import Derived.Test.YtclmaoagdkhboaaNt2
namespace Go.Proofs.Ytclmaoagdkhboaa
open Go.RowKit
open Asn (pt row rb)
set_option linter.unusedVariables false
set_option linter.unusedSimpArgs false
--@use N

theorem cutsB_no {C : List Ct} {j n : Nat} (h : cutOk C j = false) (hj : j < n) : cutsB C n = false := by
  cases hc : cutsB C n
  · rfl
  · rw [cutsB_at hc hj] at h
    cases h
set_option maxRecDepth 100000 in
set_option maxHeartbeats 4000000 in
theorem rightD_k (w : World) (A : Option Addr) (c n : Nat) (P : List Pk) (W : List Pn) (hk : P.length = n) (hW : P.map pkv = W) (h : Rd w All 3 A n (cellsL pkc P)) (A2 : Option Addr) (c2' n2 : Nat) (C : List Ct) (hk2 : C.length = n2) (h2 : Rd w All 2 A2 n2 (cellsL ctc C)) (hn : n ≤ 1000) (hn2 : n2 ≤ 1000) (r : Bool) (hr : chkB W C = r) :
    Gives Try.prog 16 [.agg (ntc A n c A2 n2 c2').toArray] [] w (X := Unit) (fun _ => .bool r) (fun _ => True) (fun _ => []) := by
  refine gives_S Try.func16 rfl Try.ntmps16 Try.results16 (by simp) (St.enter w) (fun B hB => ?_)
  have hne : 0 < n → A ≠ none := fun h0 => by obtain ⟨ad, rfl, _⟩ := h.2 (by omega); simp
  have hne2 : 0 < n2 → A2 ≠ none := fun h0 => by obtain ⟨ad, rfl, _⟩ := h2.2 (by omega); simp
  have hWn : W.length = n := by rw [← hW, List.length_map, hk]
  rw [chkB, hWn, hk2] at hr
  focus (refine S_seq rfl ?_; refine S_region rfl rfl ?_; (refine R_eff (E_boxa (cs := ntc A n c A2 n2 c2') rfl) ?_ rfl rfl; rintro _ _ ⟨b1, rfl, rfl⟩); refine R_p rfl ?_ rfl rfl; refine R_nil ?_; refine S_seq rfl ?_; refine S_seq rfl ?_; refine S_region rfl rfl ?_; refine R_p rfl ?_ rfl rfl; refine R_nil ?_; refine S_block rfl ?_)
  refine S_loop (X := Nat) (fun j => [(1, .pointer (some ⟨b1, 0, none⟩)), (3, .int .i64 (j : Int))]) (fun _ => [pt b1 25 (ntc A n c A2 n2 c2')]) (fun j => j ≤ n ∧ j ≤ 80 ∧ (W.take j).all pkB = true) (fun j => n - j) rfl 0 ⟨Nat.zero_le _, Nat.zero_le _, rfl⟩ (Sub.cons rfl (Sub.cons rfl Sub.nil)) sub_st ?_
  rintro j ⟨hj, hj80, hok⟩ J hJ
  rcases Nat.lt_or_ge j n with hjl | hjl
  · have hne := hne (by omega)
    have hat := cellsL_at (f := pkc) pkc_len P default j (by omega)
    have htk : W.take (j + 1) = W.take j ++ [pkv (P.getD j default)] := by
      rw [List.take_succ_eq_append_getElem (by omega)]
      congr 2
      subst hW
      simp [List.getD, show j < P.length by omega]
    have hmem : pkv (P.getD j default) ∈ W := by rw [← hW]; exact List.mem_map.2 ⟨_, by simp [List.getD, show j < P.length by omega], rfl⟩
    generalize P.getD j default = x at hat htk hmem
    obtain ⟨q, hq⟩ : ∃ q, pkB (pkv x) = q := ⟨_, rfl⟩
    by_cases h80 : j = 80
    · rw [decide_eq_false (by omega), Bool.false_and, Bool.false_and] at hr
      subst hr
      focus (refine S_seq rfl ?_; refine S_seq rfl ?_; refine S_region rfl rfl ?_; refine R_p rfl ?_ rfl rfl; refine R_p rfl ?_ rfl rfl; refine R_take (T_load rfl rfl rfl rfl) ?_ rfl rfl; refine R_p rfl ?_ rfl rfl; refine R_take (T_decT rfl (by omega)) ?_ rfl rfl; refine R_nil ?_; refine S_true rfl rfl ?_; refine S_skip rfl ?_; refine S_seq rfl ?_; refine S_block rfl ?_; refine S_seq rfl ?_; refine S_region rfl rfl ?_; refine R_p rfl ?_ rfl rfl; refine R_take (T_decT rfl (by omega)) ?_ rfl rfl; refine R_p rfl ?_ rfl rfl; refine R_skip ?_ rfl rfl; refine R_skip ?_ rfl rfl; refine R_skip ?_ rfl rfl; refine R_skip ?_ rfl rfl; refine R_skip ?_ rfl rfl; refine R_skip ?_ rfl rfl; refine R_skip ?_ rfl rfl; refine R_p rfl ?_ rfl rfl; refine R_nil ?_; refine S_true rfl rfl ?_; refine S_seq rfl ?_; refine S_region rfl rfl ?_; refine R_p rfl ?_ rfl rfl; refine R_nil ?_)
      exact hB _ _ _ _ _ rfl rfl fun w' hS => ⟨(), rfl, trivial, hS.sublist (List.nil_sublist _)⟩
    cases q
    · have h3 : W.all pkB = false := by
        cases h3 : W.all pkB
        · rfl
        · rw [List.all_eq_true.1 h3 _ hmem] at hq
          cases hq
      rw [h3, Bool.and_false, Bool.false_and] at hr
      subst hr
      focus (refine S_seq rfl ?_; refine S_seq rfl ?_; refine S_region rfl rfl ?_; refine R_p rfl ?_ rfl rfl; refine R_p rfl ?_ rfl rfl; refine R_take (T_load rfl rfl rfl rfl) ?_ rfl rfl; refine R_p rfl ?_ rfl rfl; refine R_take (T_decT rfl (by omega)) ?_ rfl rfl; refine R_nil ?_; refine S_true rfl rfl ?_; refine S_skip rfl ?_; refine S_seq rfl ?_; refine S_block rfl ?_; refine S_seq rfl ?_; refine S_region rfl rfl ?_; refine R_p rfl ?_ rfl rfl; refine R_take (T_decF rfl (by omega)) ?_ rfl rfl; refine R_p rfl ?_ rfl rfl; refine R_p rfl ?_ rfl rfl; refine R_take (T_load rfl rfl rfl rfl) ?_ rfl rfl; refine R_p rfl ?_ rfl rfl; refine R_take (T_ixM (sz := 3) (q := j) rfl rfl rfl rfl rfl rfl hne hjl) ?_ rfl rfl; refine R_take (T_lda (ds := pkc x) rfl rfl rfl (Srd.old h (fun k _ => noOwns k)) rfl (by omega) hat) ?_ rfl rfl; (refine R_eff (E_hv0 (f := 40) ⟨_, Try.func40, rfl, by kernel_rfl⟩ (fun w hS => rightP_k w x _ hq) rfl rfl (fun _ => rfl)) ?_ rfl rfl; rintro _ _ ⟨_, rfl, _, rfl⟩); refine R_take (T_not rfl) ?_ rfl rfl; refine R_take (T_decT rfl (by omega)) ?_ rfl rfl; refine R_nil ?_; refine S_true rfl rfl ?_; refine S_seq rfl ?_; refine S_region rfl rfl ?_; refine R_p rfl ?_ rfl rfl; refine R_nil ?_)
      exact hB _ _ _ _ _ rfl rfl fun w' hS => ⟨(), rfl, trivial, hS.sublist (List.nil_sublist _)⟩
    · focus (refine S_seq rfl ?_; refine S_seq rfl ?_; refine S_region rfl rfl ?_; refine R_p rfl ?_ rfl rfl; refine R_p rfl ?_ rfl rfl; refine R_take (T_load rfl rfl rfl rfl) ?_ rfl rfl; refine R_p rfl ?_ rfl rfl; refine R_take (T_decT rfl (by omega)) ?_ rfl rfl; refine R_nil ?_; refine S_true rfl rfl ?_; refine S_skip rfl ?_; refine S_seq rfl ?_; refine S_block rfl ?_; refine S_seq rfl ?_; refine S_region rfl rfl ?_; refine R_p rfl ?_ rfl rfl; refine R_take (T_decF rfl (by omega)) ?_ rfl rfl; refine R_p rfl ?_ rfl rfl; refine R_p rfl ?_ rfl rfl; refine R_take (T_load rfl rfl rfl rfl) ?_ rfl rfl; refine R_p rfl ?_ rfl rfl; refine R_take (T_ixM (sz := 3) (q := j) rfl rfl rfl rfl rfl rfl hne hjl) ?_ rfl rfl; refine R_take (T_lda (ds := pkc x) rfl rfl rfl (Srd.old h (fun k _ => noOwns k)) rfl (by omega) hat) ?_ rfl rfl; (refine R_eff (E_hv0 (f := 40) ⟨_, Try.func40, rfl, by kernel_rfl⟩ (fun w hS => rightP_k w x _ hq) rfl rfl (fun _ => rfl)) ?_ rfl rfl; rintro _ _ ⟨_, rfl, _, rfl⟩); refine R_take (T_not rfl) ?_ rfl rfl; refine R_p rfl ?_ rfl rfl; refine R_nil ?_; refine S_false rfl rfl ?_; refine S_skip rfl ?_; refine RS_blk ?_; refine S_region rfl rfl ?_; refine R_p rfl ?_ rfl rfl; refine R_take (T_addN rfl rfl (by unfold fits; omega)) ?_ rfl rfl; refine R_p rfl ?_ rfl rfl; refine R_nil ?_)
      exact hJ (j + 1) _ _ ⟨by omega, by omega, by rw [htk, List.all_append, hok]; simp [hq]⟩ (Sub.cons rfl (Sub.cons rfl Sub.nil)) sub_st (by omega)
  have hjn : n = j := by omega
  subst hjn
  rw [← hWn, List.take_length] at hok
  rw [hok, decide_eq_true hj80, Bool.true_and, Bool.true_and] at hr
  focus (refine S_seq rfl ?_; refine S_seq rfl ?_; refine S_region rfl rfl ?_; refine R_p rfl ?_ rfl rfl; refine R_p rfl ?_ rfl rfl; refine R_take (T_load rfl rfl rfl rfl) ?_ rfl rfl; refine R_p rfl ?_ rfl rfl; refine R_take (T_decF rfl (by omega)) ?_ rfl rfl; refine R_nil ?_; refine S_false rfl rfl ?_; refine S_exit rfl rfl ?_; refine S_seq rfl ?_; refine S_seq rfl ?_; refine S_region rfl rfl ?_; refine R_p rfl ?_ rfl rfl; refine R_nil ?_; refine S_block rfl ?_)
  refine S_loop (X := Nat) (fun j => [(1, .pointer (some ⟨b1, 0, none⟩)), (4, .int .i64 (j : Int))]) (fun _ => [pt b1 25 (ntc A n c A2 n2 c2')]) (fun q => q ≤ n2 ∧ cutsB C q = true) (fun q => n2 - q) rfl 0 ⟨Nat.zero_le _, rfl⟩ (Sub.cons rfl (Sub.cons rfl Sub.nil)) sub_st ?_
  clear hJ
  rintro j ⟨hj2, hcb⟩ J hJ
  rcases Nat.lt_or_ge j n2 with hjl | hjl
  · have hne2 := hne2 (by omega)
    have hat := cellsL_at (f := ctc) ctc_len C default j (by omega)
    obtain ⟨x, hx⟩ : ∃ x, C.getD j default = x := ⟨_, rfl⟩
    have hco : cutOk C j = (pairB x.1 x.2 && decide (x.1 ≤ x.2) && (decide (j = 0) || decide (10 * (C.getD (j - 1) default).1 + (C.getD (j - 1) default).2 < 10 * x.1 + x.2))) := by unfold cutOk; rw [hx]
    rw [hx] at hat
    obtain ⟨is, his⟩ : ∃ q, pairB x.1 x.2 = q := ⟨_, rfl⟩
    focus (refine S_seq rfl ?_; refine S_seq rfl ?_; refine S_region rfl rfl ?_; refine R_p rfl ?_ rfl rfl; refine R_p rfl ?_ rfl rfl; refine R_take (T_load rfl rfl rfl rfl) ?_ rfl rfl; refine R_p rfl ?_ rfl rfl; refine R_take (T_decT rfl (by omega)) ?_ rfl rfl; refine R_nil ?_; refine S_true rfl rfl ?_; refine S_skip rfl ?_; refine S_seq rfl ?_; refine S_block rfl ?_; refine S_seq rfl ?_; refine S_region rfl rfl ?_; refine R_p rfl ?_ rfl rfl; refine R_take (T_load rfl rfl rfl rfl) ?_ rfl rfl; refine R_p rfl ?_ rfl rfl; refine R_take (T_ixM (sz := 2) (q := j) rfl rfl rfl rfl rfl rfl hne2 hjl) ?_ rfl rfl; refine R_take (T_lda (ds := ctc x) rfl rfl rfl (Srd.old h2 (fun k _ => noOwns k)) rfl (by omega) hat) ?_ rfl rfl; (refine R_eff (E_alloca rfl ct_zero) ?_ rfl rfl; rintro _ _ ⟨b5, rfl, rfl⟩); (refine R_eff0 (E_storew (cs := ctc (0, 0)) (ds := ctc x) rfl rfl rfl rfl (ctc_one _) rfl) ?_ rfl; rintro _ _ rfl); refine R_nil ?_; refine S_seq rfl ?_)
    cases is
    · have hc : cutOk C j = false := by rw [hco, his]; rfl
      rw [cutsB_no hc hjl] at hr
      subst hr
      refine S_draw ([pt b1 25 (ntc A n c A2 n2 c2'), pt b5 73 (ctc x)]) sub_st (by kernel_rfl) rfl (by kernel_rfl) (by kernel_rfl : _ = 42) ?_
      refine D_take 0 rfl (pev_ok rfl) ?_ rfl rfl (by kernel_rfl) (by kernel_rfl)
      refine D_take 1 rfl (T_load rfl rfl rfl rfl) ?_ rfl rfl (by kernel_rfl) (by kernel_rfl)
      refine D_take 2 rfl (pev_ok rfl) ?_ rfl rfl (by kernel_rfl) (by kernel_rfl)
      refine D_take 3 rfl (T_load rfl rfl rfl rfl) ?_ rfl rfl (by kernel_rfl) (by kernel_rfl)
      refine D_one 4 rfl (E_hv0 (f := 26) ⟨_, Try.func26, rfl, by kernel_rfl⟩ (fun w hS => pairD_k w x.1 x.2 _ his) rfl rfl (fun _ => rfl)) ?_ rfl rfl (by kernel_rfl)
      rintro _ _ ⟨_, rfl, _, rfl⟩
      refine Nx_same sub_st ?_
      refine D_take 5 rfl (T_not rfl) ?_ rfl rfl (by kernel_rfl) (by kernel_rfl)
      refine D_take 6 rfl (T_decT rfl (by omega)) ?_ rfl rfl (by kernel_rfl) (by kernel_rfl)
      refine D_skip 7 rfl ?_ rfl rfl (by kernel_rfl) (by kernel_rfl)
      refine D_skip 8 rfl ?_ rfl rfl (by kernel_rfl) (by kernel_rfl)
      refine D_skip 9 rfl ?_ rfl rfl (by kernel_rfl) (by kernel_rfl)
      refine D_skip 10 rfl ?_ rfl rfl (by kernel_rfl) (by kernel_rfl)
      refine D_skip 11 rfl ?_ rfl rfl (by kernel_rfl) (by kernel_rfl)
      refine D_take 12 rfl (T_decT rfl (by omega)) ?_ rfl rfl (by kernel_rfl) (by kernel_rfl)
      refine D_take 13 rfl (T_decT rfl (by omega)) ?_ rfl rfl (by kernel_rfl) (by kernel_rfl)
      refine D_skip 14 rfl ?_ rfl rfl (by kernel_rfl) (by kernel_rfl)
      refine D_skip 15 rfl ?_ rfl rfl (by kernel_rfl) (by kernel_rfl)
      refine D_skip 16 rfl ?_ rfl rfl (by kernel_rfl) (by kernel_rfl)
      refine D_skip 17 rfl ?_ rfl rfl (by kernel_rfl) (by kernel_rfl)
      refine D_skip 18 rfl ?_ rfl rfl (by kernel_rfl) (by kernel_rfl)
      refine D_skip 19 rfl ?_ rfl rfl (by kernel_rfl) (by kernel_rfl)
      refine D_skip 20 rfl ?_ rfl rfl (by kernel_rfl) (by kernel_rfl)
      refine D_skip 21 rfl ?_ rfl rfl (by kernel_rfl) (by kernel_rfl)
      refine D_skip 22 rfl ?_ rfl rfl (by kernel_rfl) (by kernel_rfl)
      refine D_skip 23 rfl ?_ rfl rfl (by kernel_rfl) (by kernel_rfl)
      refine D_skip 24 rfl ?_ rfl rfl (by kernel_rfl) (by kernel_rfl)
      refine D_skip 25 rfl ?_ rfl rfl (by kernel_rfl) (by kernel_rfl)
      refine D_skip 26 rfl ?_ rfl rfl (by kernel_rfl) (by kernel_rfl)
      refine D_skip 27 rfl ?_ rfl rfl (by kernel_rfl) (by kernel_rfl)
      refine D_skip 28 rfl ?_ rfl rfl (by kernel_rfl) (by kernel_rfl)
      refine D_skip 29 rfl ?_ rfl rfl (by kernel_rfl) (by kernel_rfl)
      refine D_skip 30 rfl ?_ rfl rfl (by kernel_rfl) (by kernel_rfl)
      refine D_skip 31 rfl ?_ rfl rfl (by kernel_rfl) (by kernel_rfl)
      refine D_skip 32 rfl ?_ rfl rfl (by kernel_rfl) (by kernel_rfl)
      refine D_skip 33 rfl ?_ rfl rfl (by kernel_rfl) (by kernel_rfl)
      refine D_skip 34 rfl ?_ rfl rfl (by kernel_rfl) (by kernel_rfl)
      refine D_skip 35 rfl ?_ rfl rfl (by kernel_rfl) (by kernel_rfl)
      refine D_skip 36 rfl ?_ rfl rfl (by kernel_rfl) (by kernel_rfl)
      refine D_skip 37 rfl ?_ rfl rfl (by kernel_rfl) (by kernel_rfl)
      refine D_skip 38 rfl ?_ rfl rfl (by kernel_rfl) (by kernel_rfl)
      refine D_skip 39 rfl ?_ rfl rfl (by kernel_rfl) (by kernel_rfl)
      refine D_skip 40 rfl ?_ rfl rfl (by kernel_rfl) (by kernel_rfl)
      refine D_take 41 rfl (T_decT rfl (by omega)) ?_ rfl rfl (by kernel_rfl) (by kernel_rfl)
      refine D_done ?_ (by kernel_rfl)
      skip
      focus (refine S_true rfl rfl ?_; refine S_seq rfl ?_; refine S_region rfl rfl ?_; refine R_p rfl ?_ rfl rfl; refine R_nil ?_)
      exact hB _ _ _ _ _ rfl rfl fun w' hS => ⟨(), rfl, trivial, hS.sublist (List.nil_sublist _)⟩
    have hlx := pairB_lo his
    by_cases hle : x.1 ≤ x.2
    · by_cases h0 : j = 0
      · have hc : cutOk C j = true := by rw [hco, his, decide_eq_true hle, decide_eq_true h0]; rfl
        refine S_draw ([pt b1 25 (ntc A n c A2 n2 c2'), pt b5 73 (ctc x)]) sub_st (by kernel_rfl) rfl (by kernel_rfl) (by kernel_rfl : _ = 42) ?_
        refine D_take 0 rfl (pev_ok rfl) ?_ rfl rfl (by kernel_rfl) (by kernel_rfl)
        refine D_take 1 rfl (T_load rfl rfl rfl rfl) ?_ rfl rfl (by kernel_rfl) (by kernel_rfl)
        refine D_take 2 rfl (pev_ok rfl) ?_ rfl rfl (by kernel_rfl) (by kernel_rfl)
        refine D_take 3 rfl (T_load rfl rfl rfl rfl) ?_ rfl rfl (by kernel_rfl) (by kernel_rfl)
        refine D_one 4 rfl (E_hv0 (f := 26) ⟨_, Try.func26, rfl, by kernel_rfl⟩ (fun w hS => pairD_k w x.1 x.2 _ his) rfl rfl (fun _ => rfl)) ?_ rfl rfl (by kernel_rfl)
        rintro _ _ ⟨_, rfl, _, rfl⟩
        refine Nx_same sub_st ?_
        refine D_take 5 rfl (T_not rfl) ?_ rfl rfl (by kernel_rfl) (by kernel_rfl)
        refine D_take 6 rfl (pev_ok rfl) ?_ rfl rfl (by kernel_rfl) (by kernel_rfl)
        refine D_take 7 rfl (pev_ok rfl) ?_ rfl rfl (by kernel_rfl) (by kernel_rfl)
        refine D_take 8 rfl (T_load rfl rfl rfl rfl) ?_ rfl rfl (by kernel_rfl) (by kernel_rfl)
        refine D_take 9 rfl (pev_ok rfl) ?_ rfl rfl (by kernel_rfl) (by kernel_rfl)
        refine D_take 10 rfl (T_load rfl rfl rfl rfl) ?_ rfl rfl (by kernel_rfl) (by kernel_rfl)
        refine D_take 11 rfl (T_decF rfl (by omega)) ?_ rfl rfl (by kernel_rfl) (by kernel_rfl)
        refine D_take 12 rfl (pev_ok rfl) ?_ rfl rfl (by kernel_rfl) (by kernel_rfl)
        refine D_take 13 rfl (pev_ok rfl) ?_ rfl rfl (by kernel_rfl) (by kernel_rfl)
        refine D_take 14 rfl (pev_ok rfl) ?_ rfl rfl (by kernel_rfl) (by kernel_rfl)
        refine D_take 15 rfl (T_decF rfl (by omega)) ?_ rfl rfl (by kernel_rfl) (by kernel_rfl)
        refine D_take 16 rfl (pev_ok rfl) ?_ rfl rfl (by kernel_rfl) (by kernel_rfl)
        refine D_skip 17 rfl ?_ rfl rfl (by kernel_rfl) (by kernel_rfl)
        refine D_skip 18 rfl ?_ rfl rfl (by kernel_rfl) (by kernel_rfl)
        refine D_skip 19 rfl ?_ rfl rfl (by kernel_rfl) (by kernel_rfl)
        refine D_skip 20 rfl ?_ rfl rfl (by kernel_rfl) (by kernel_rfl)
        refine D_skip 21 rfl ?_ rfl rfl (by kernel_rfl) (by kernel_rfl)
        refine D_skip 22 rfl ?_ rfl rfl (by kernel_rfl) (by kernel_rfl)
        refine D_skip 23 rfl ?_ rfl rfl (by kernel_rfl) (by kernel_rfl)
        refine D_skip 24 rfl ?_ rfl rfl (by kernel_rfl) (by kernel_rfl)
        refine D_skip 25 rfl ?_ rfl rfl (by kernel_rfl) (by kernel_rfl)
        refine D_skip 26 rfl ?_ rfl rfl (by kernel_rfl) (by kernel_rfl)
        refine D_skip 27 rfl ?_ rfl rfl (by kernel_rfl) (by kernel_rfl)
        refine D_skip 28 rfl ?_ rfl rfl (by kernel_rfl) (by kernel_rfl)
        refine D_skip 29 rfl ?_ rfl rfl (by kernel_rfl) (by kernel_rfl)
        refine D_skip 30 rfl ?_ rfl rfl (by kernel_rfl) (by kernel_rfl)
        refine D_skip 31 rfl ?_ rfl rfl (by kernel_rfl) (by kernel_rfl)
        refine D_skip 32 rfl ?_ rfl rfl (by kernel_rfl) (by kernel_rfl)
        refine D_skip 33 rfl ?_ rfl rfl (by kernel_rfl) (by kernel_rfl)
        refine D_skip 34 rfl ?_ rfl rfl (by kernel_rfl) (by kernel_rfl)
        refine D_skip 35 rfl ?_ rfl rfl (by kernel_rfl) (by kernel_rfl)
        refine D_skip 36 rfl ?_ rfl rfl (by kernel_rfl) (by kernel_rfl)
        refine D_skip 37 rfl ?_ rfl rfl (by kernel_rfl) (by kernel_rfl)
        refine D_skip 38 rfl ?_ rfl rfl (by kernel_rfl) (by kernel_rfl)
        refine D_skip 39 rfl ?_ rfl rfl (by kernel_rfl) (by kernel_rfl)
        refine D_take 40 rfl (pev_ok rfl) ?_ rfl rfl (by kernel_rfl) (by kernel_rfl)
        refine D_take 41 rfl (pev_ok rfl) ?_ rfl rfl (by kernel_rfl) (by kernel_rfl)
        refine D_done ?_ (by kernel_rfl)
        skip
        focus (refine S_false rfl rfl ?_; refine S_skip rfl ?_; refine RS_blk ?_; refine S_region rfl rfl ?_; refine R_p rfl ?_ rfl rfl; refine R_take (T_addN rfl rfl (by unfold fits; omega)) ?_ rfl rfl; refine R_p rfl ?_ rfl rfl; refine R_nil ?_)
        exact hJ (j + 1) _ _ ⟨by omega, by rw [cutsB_next, hcb, hc]; rfl⟩ (Sub.cons rfl (Sub.cons rfl Sub.nil)) (fun w' hS => sub_st (H' := [pt b1 25 (ntc A n c A2 n2 c2')]) w' hS) (by omega)
      obtain ⟨q, hq⟩ : ∃ q, j - 1 = q := ⟨_, rfl⟩
      have hql : q < n2 := by omega
      have haty := cellsL_at (f := ctc) ctc_len C default q (by omega)
      have hlo := cutOk_lo (cutsB_at (C := C) (j := j) (i := q) hcb (by omega))
      rw [hq] at hco
      obtain ⟨y, hy⟩ : ∃ y, C.getD q default = y := ⟨_, rfl⟩
      rw [hy] at haty hlo hco
      have hay0 : (cellsL ctc C)[q * 2 + 0]? = some (.int .i64 y.1) := haty 0 _ rfl
      have hay1 : (cellsL ctc C)[q * 2 + 1]? = some (.int .i64 y.2) := haty 1 _ rfl
      obtain ⟨x1, x2⟩ := x
      obtain ⟨y1, y2⟩ := y
      have hlx : 1 ≤ x1 ∧ x1 ≤ 8 ∧ 1 ≤ x2 ∧ x2 ≤ 8 ∧ x1 ≠ x2 := hlx
      have hlo : 1 ≤ y1 ∧ y1 ≤ 8 ∧ 1 ≤ y2 ∧ y2 ≤ 8 := hlo
      have hle : x1 ≤ x2 := hle
      have hco : cutOk C j = (pairB x1 x2 && decide (x1 ≤ x2) && (decide (j = 0) || decide (10 * y1 + y2 < 10 * x1 + x2))) := hco
      by_cases hlt : 10 * y1 + y2 < 10 * x1 + x2
      · have hc : cutOk C j = true := by rw [hco, his, decide_eq_true hle, decide_eq_true hlt, Bool.or_true]; rfl
        refine S_draw ([pt b1 25 (ntc A n c A2 n2 c2'), pt b5 73 (ctc (x1, x2))]) sub_st (by kernel_rfl) rfl (by kernel_rfl) (by kernel_rfl : _ = 42) ?_
        refine D_take 0 rfl (pev_ok rfl) ?_ rfl rfl (by kernel_rfl) (by kernel_rfl)
        refine D_take 1 rfl (T_load (v := .int .i64 x1) rfl rfl rfl rfl) ?_ rfl rfl (by kernel_rfl) (by kernel_rfl)
        refine D_take 2 rfl (pev_ok rfl) ?_ rfl rfl (by kernel_rfl) (by kernel_rfl)
        refine D_take 3 rfl (T_load (v := .int .i64 x2) rfl rfl rfl rfl) ?_ rfl rfl (by kernel_rfl) (by kernel_rfl)
        refine D_one 4 rfl (E_hv0 (f := 26) ⟨_, Try.func26, rfl, by kernel_rfl⟩ (fun w hS => pairD_k w x1 x2 _ his) rfl rfl (fun _ => rfl)) ?_ rfl rfl (by kernel_rfl)
        rintro _ _ ⟨_, rfl, _, rfl⟩
        refine Nx_same sub_st ?_
        refine D_take 5 rfl (T_not rfl) ?_ rfl rfl (by kernel_rfl) (by kernel_rfl)
        refine D_take 6 rfl (pev_ok rfl) ?_ rfl rfl (by kernel_rfl) (by kernel_rfl)
        refine D_take 7 rfl (pev_ok rfl) ?_ rfl rfl (by kernel_rfl) (by kernel_rfl)
        refine D_take 8 rfl (T_load (v := .int .i64 x1) rfl rfl rfl rfl) ?_ rfl rfl (by kernel_rfl) (by kernel_rfl)
        refine D_take 9 rfl (pev_ok rfl) ?_ rfl rfl (by kernel_rfl) (by kernel_rfl)
        refine D_take 10 rfl (T_load (v := .int .i64 x2) rfl rfl rfl rfl) ?_ rfl rfl (by kernel_rfl) (by kernel_rfl)
        refine D_take 11 rfl (T_decF rfl (by omega)) ?_ rfl rfl (by kernel_rfl) (by kernel_rfl)
        refine D_take 12 rfl (pev_ok rfl) ?_ rfl rfl (by kernel_rfl) (by kernel_rfl)
        refine D_take 13 rfl (pev_ok rfl) ?_ rfl rfl (by kernel_rfl) (by kernel_rfl)
        refine D_take 14 rfl (pev_ok rfl) ?_ rfl rfl (by kernel_rfl) (by kernel_rfl)
        refine D_take 15 rfl (T_decT rfl (by omega)) ?_ rfl rfl (by kernel_rfl) (by kernel_rfl)
        refine D_take 16 rfl (T_decT rfl (by omega)) ?_ rfl rfl (by kernel_rfl) (by kernel_rfl)
        refine D_take 17 rfl (pev_ok rfl) ?_ rfl rfl (by kernel_rfl) (by kernel_rfl)
        refine D_take 18 rfl (T_load (v := .int .i64 x1) rfl rfl rfl rfl) ?_ rfl rfl (by kernel_rfl) (by kernel_rfl)
        (refine D_take 19 rfl (T_sum (op := .mul) rfl rfl rfl (by unfold fits; omega)) ?_ rfl rfl (by kernel_rfl) (by kernel_rfl))
        refine D_take 20 rfl (pev_ok rfl) ?_ rfl rfl (by kernel_rfl) (by kernel_rfl)
        refine D_take 21 rfl (T_load (v := .int .i64 x2) rfl rfl rfl rfl) ?_ rfl rfl (by kernel_rfl) (by kernel_rfl)
        (refine D_take 22 rfl (T_sum (op := .add) rfl rfl rfl (by unfold fits; omega)) ?_ rfl rfl (by kernel_rfl) (by kernel_rfl))
        refine D_take 23 rfl (pev_ok rfl) ?_ rfl rfl (by kernel_rfl) (by kernel_rfl)
        refine D_take 24 rfl (T_load rfl rfl rfl rfl) ?_ rfl rfl (by kernel_rfl) (by kernel_rfl)
        refine D_take 25 rfl (pev_ok rfl) ?_ rfl rfl (by kernel_rfl) (by kernel_rfl)
        (refine D_take 26 rfl (T_subE hq rfl rfl (by omega) (by unfold fits; omega)) ?_ rfl rfl (by kernel_rfl) (by kernel_rfl))
        refine D_take 27 rfl (T_ixM (sz := 2) (q := q) rfl rfl rfl rfl rfl rfl hne2 hql) ?_ rfl rfl (by kernel_rfl) (by kernel_rfl)
        refine D_take 28 rfl (T_fap rfl rfl rfl rfl rfl hne2) ?_ rfl rfl (by kernel_rfl) (by kernel_rfl)
        refine D_take 29 rfl (T_ldr (v := .int .i64 y1) rfl rfl rfl (Srd.old h2 (fun k _ => noOwns k)) (by omega) hay0) ?_ rfl rfl (by kernel_rfl) (by kernel_rfl)
        (refine D_take 30 rfl (T_sum (op := .mul) rfl rfl rfl (by unfold fits; omega)) ?_ rfl rfl (by kernel_rfl) (by kernel_rfl))
        refine D_take 31 rfl (pev_ok rfl) ?_ rfl rfl (by kernel_rfl) (by kernel_rfl)
        refine D_take 32 rfl (T_load rfl rfl rfl rfl) ?_ rfl rfl (by kernel_rfl) (by kernel_rfl)
        refine D_take 33 rfl (pev_ok rfl) ?_ rfl rfl (by kernel_rfl) (by kernel_rfl)
        (refine D_take 34 rfl (T_subE hq rfl rfl (by omega) (by unfold fits; omega)) ?_ rfl rfl (by kernel_rfl) (by kernel_rfl))
        refine D_take 35 rfl (T_ixM (sz := 2) (q := q) rfl rfl rfl rfl rfl rfl hne2 hql) ?_ rfl rfl (by kernel_rfl) (by kernel_rfl)
        refine D_take 36 rfl (T_fap rfl rfl rfl rfl rfl hne2) ?_ rfl rfl (by kernel_rfl) (by kernel_rfl)
        refine D_take 37 rfl (T_ldr (v := .int .i64 y2) rfl rfl rfl (Srd.old h2 (fun k _ => noOwns k)) (by omega) hay1) ?_ rfl rfl (by kernel_rfl) (by kernel_rfl)
        (refine D_take 38 rfl (T_sum (op := .add) rfl rfl rfl (by unfold fits; omega)) ?_ rfl rfl (by kernel_rfl) (by kernel_rfl))
        refine D_take 39 rfl (T_decF rfl (by omega)) ?_ rfl rfl (by kernel_rfl) (by kernel_rfl)
        refine D_take 40 rfl (pev_ok rfl) ?_ rfl rfl (by kernel_rfl) (by kernel_rfl)
        refine D_take 41 rfl (pev_ok rfl) ?_ rfl rfl (by kernel_rfl) (by kernel_rfl)
        refine D_done ?_ (by kernel_rfl)
        skip
        focus (refine S_false rfl rfl ?_; refine S_skip rfl ?_; refine RS_blk ?_; refine S_region rfl rfl ?_; refine R_p rfl ?_ rfl rfl; refine R_take (T_sum (op := .add) rfl rfl rfl (by unfold fits; omega)) ?_ rfl rfl; refine R_p rfl ?_ rfl rfl; refine R_nil ?_)
        exact hJ (j + 1) _ _ ⟨by omega, by rw [cutsB_next, hcb, hc]; rfl⟩ (Sub.cons rfl (Sub.cons rfl Sub.nil)) (fun w' hS => sub_st (H' := [pt b1 25 (ntc A n c A2 n2 c2')]) w' hS) (by omega)
      · have hc : cutOk C j = false := by rw [hco, decide_eq_false hlt, decide_eq_false h0]; simp
        rw [cutsB_no hc hjl] at hr
        subst hr
        refine S_draw ([pt b1 25 (ntc A n c A2 n2 c2'), pt b5 73 (ctc (x1, x2))]) sub_st (by kernel_rfl) rfl (by kernel_rfl) (by kernel_rfl : _ = 42) ?_
        refine D_take 0 rfl (pev_ok rfl) ?_ rfl rfl (by kernel_rfl) (by kernel_rfl)
        refine D_take 1 rfl (T_load (v := .int .i64 x1) rfl rfl rfl rfl) ?_ rfl rfl (by kernel_rfl) (by kernel_rfl)
        refine D_take 2 rfl (pev_ok rfl) ?_ rfl rfl (by kernel_rfl) (by kernel_rfl)
        refine D_take 3 rfl (T_load (v := .int .i64 x2) rfl rfl rfl rfl) ?_ rfl rfl (by kernel_rfl) (by kernel_rfl)
        refine D_one 4 rfl (E_hv0 (f := 26) ⟨_, Try.func26, rfl, by kernel_rfl⟩ (fun w hS => pairD_k w x1 x2 _ his) rfl rfl (fun _ => rfl)) ?_ rfl rfl (by kernel_rfl)
        rintro _ _ ⟨_, rfl, _, rfl⟩
        refine Nx_same sub_st ?_
        refine D_take 5 rfl (T_not rfl) ?_ rfl rfl (by kernel_rfl) (by kernel_rfl)
        refine D_take 6 rfl (pev_ok rfl) ?_ rfl rfl (by kernel_rfl) (by kernel_rfl)
        refine D_take 7 rfl (pev_ok rfl) ?_ rfl rfl (by kernel_rfl) (by kernel_rfl)
        refine D_take 8 rfl (T_load (v := .int .i64 x1) rfl rfl rfl rfl) ?_ rfl rfl (by kernel_rfl) (by kernel_rfl)
        refine D_take 9 rfl (pev_ok rfl) ?_ rfl rfl (by kernel_rfl) (by kernel_rfl)
        refine D_take 10 rfl (T_load (v := .int .i64 x2) rfl rfl rfl rfl) ?_ rfl rfl (by kernel_rfl) (by kernel_rfl)
        refine D_take 11 rfl (T_decF rfl (by omega)) ?_ rfl rfl (by kernel_rfl) (by kernel_rfl)
        refine D_take 12 rfl (pev_ok rfl) ?_ rfl rfl (by kernel_rfl) (by kernel_rfl)
        refine D_take 13 rfl (pev_ok rfl) ?_ rfl rfl (by kernel_rfl) (by kernel_rfl)
        refine D_take 14 rfl (pev_ok rfl) ?_ rfl rfl (by kernel_rfl) (by kernel_rfl)
        refine D_take 15 rfl (T_decT rfl (by omega)) ?_ rfl rfl (by kernel_rfl) (by kernel_rfl)
        refine D_take 16 rfl (T_decT rfl (by omega)) ?_ rfl rfl (by kernel_rfl) (by kernel_rfl)
        refine D_take 17 rfl (pev_ok rfl) ?_ rfl rfl (by kernel_rfl) (by kernel_rfl)
        refine D_take 18 rfl (T_load (v := .int .i64 x1) rfl rfl rfl rfl) ?_ rfl rfl (by kernel_rfl) (by kernel_rfl)
        (refine D_take 19 rfl (T_sum (op := .mul) rfl rfl rfl (by unfold fits; omega)) ?_ rfl rfl (by kernel_rfl) (by kernel_rfl))
        refine D_take 20 rfl (pev_ok rfl) ?_ rfl rfl (by kernel_rfl) (by kernel_rfl)
        refine D_take 21 rfl (T_load (v := .int .i64 x2) rfl rfl rfl rfl) ?_ rfl rfl (by kernel_rfl) (by kernel_rfl)
        (refine D_take 22 rfl (T_sum (op := .add) rfl rfl rfl (by unfold fits; omega)) ?_ rfl rfl (by kernel_rfl) (by kernel_rfl))
        refine D_take 23 rfl (pev_ok rfl) ?_ rfl rfl (by kernel_rfl) (by kernel_rfl)
        refine D_take 24 rfl (T_load rfl rfl rfl rfl) ?_ rfl rfl (by kernel_rfl) (by kernel_rfl)
        refine D_take 25 rfl (pev_ok rfl) ?_ rfl rfl (by kernel_rfl) (by kernel_rfl)
        (refine D_take 26 rfl (T_subE hq rfl rfl (by omega) (by unfold fits; omega)) ?_ rfl rfl (by kernel_rfl) (by kernel_rfl))
        refine D_take 27 rfl (T_ixM (sz := 2) (q := q) rfl rfl rfl rfl rfl rfl hne2 hql) ?_ rfl rfl (by kernel_rfl) (by kernel_rfl)
        refine D_take 28 rfl (T_fap rfl rfl rfl rfl rfl hne2) ?_ rfl rfl (by kernel_rfl) (by kernel_rfl)
        refine D_take 29 rfl (T_ldr (v := .int .i64 y1) rfl rfl rfl (Srd.old h2 (fun k _ => noOwns k)) (by omega) hay0) ?_ rfl rfl (by kernel_rfl) (by kernel_rfl)
        (refine D_take 30 rfl (T_sum (op := .mul) rfl rfl rfl (by unfold fits; omega)) ?_ rfl rfl (by kernel_rfl) (by kernel_rfl))
        refine D_take 31 rfl (pev_ok rfl) ?_ rfl rfl (by kernel_rfl) (by kernel_rfl)
        refine D_take 32 rfl (T_load rfl rfl rfl rfl) ?_ rfl rfl (by kernel_rfl) (by kernel_rfl)
        refine D_take 33 rfl (pev_ok rfl) ?_ rfl rfl (by kernel_rfl) (by kernel_rfl)
        (refine D_take 34 rfl (T_subE hq rfl rfl (by omega) (by unfold fits; omega)) ?_ rfl rfl (by kernel_rfl) (by kernel_rfl))
        refine D_take 35 rfl (T_ixM (sz := 2) (q := q) rfl rfl rfl rfl rfl rfl hne2 hql) ?_ rfl rfl (by kernel_rfl) (by kernel_rfl)
        refine D_take 36 rfl (T_fap rfl rfl rfl rfl rfl hne2) ?_ rfl rfl (by kernel_rfl) (by kernel_rfl)
        refine D_take 37 rfl (T_ldr (v := .int .i64 y2) rfl rfl rfl (Srd.old h2 (fun k _ => noOwns k)) (by omega) hay1) ?_ rfl rfl (by kernel_rfl) (by kernel_rfl)
        (refine D_take 38 rfl (T_sum (op := .add) rfl rfl rfl (by unfold fits; omega)) ?_ rfl rfl (by kernel_rfl) (by kernel_rfl))
        refine D_take 39 rfl (T_decT rfl (by omega)) ?_ rfl rfl (by kernel_rfl) (by kernel_rfl)
        refine D_take 40 rfl (T_decT rfl (by omega)) ?_ rfl rfl (by kernel_rfl) (by kernel_rfl)
        refine D_take 41 rfl (T_decT rfl (by omega)) ?_ rfl rfl (by kernel_rfl) (by kernel_rfl)
        refine D_done ?_ (by kernel_rfl)
        skip
        focus (refine S_true rfl rfl ?_; refine S_seq rfl ?_; refine S_region rfl rfl ?_; refine R_p rfl ?_ rfl rfl; refine R_nil ?_)
        exact hB _ _ _ _ _ rfl rfl fun w' hS => ⟨(), rfl, trivial, hS.sublist (List.nil_sublist _)⟩
    · have hc : cutOk C j = false := by rw [hco, decide_eq_false hle, Bool.and_false]; rfl
      rw [cutsB_no hc hjl] at hr
      subst hr
      refine S_draw ([pt b1 25 (ntc A n c A2 n2 c2'), pt b5 73 (ctc x)]) sub_st (by kernel_rfl) rfl (by kernel_rfl) (by kernel_rfl : _ = 42) ?_
      refine D_take 0 rfl (pev_ok rfl) ?_ rfl rfl (by kernel_rfl) (by kernel_rfl)
      refine D_take 1 rfl (T_load rfl rfl rfl rfl) ?_ rfl rfl (by kernel_rfl) (by kernel_rfl)
      refine D_take 2 rfl (pev_ok rfl) ?_ rfl rfl (by kernel_rfl) (by kernel_rfl)
      refine D_take 3 rfl (T_load rfl rfl rfl rfl) ?_ rfl rfl (by kernel_rfl) (by kernel_rfl)
      refine D_one 4 rfl (E_hv0 (f := 26) ⟨_, Try.func26, rfl, by kernel_rfl⟩ (fun w hS => pairD_k w x.1 x.2 _ his) rfl rfl (fun _ => rfl)) ?_ rfl rfl (by kernel_rfl)
      rintro _ _ ⟨_, rfl, _, rfl⟩
      refine Nx_same sub_st ?_
      refine D_take 5 rfl (T_not rfl) ?_ rfl rfl (by kernel_rfl) (by kernel_rfl)
      refine D_take 6 rfl (pev_ok rfl) ?_ rfl rfl (by kernel_rfl) (by kernel_rfl)
      refine D_take 7 rfl (pev_ok rfl) ?_ rfl rfl (by kernel_rfl) (by kernel_rfl)
      refine D_take 8 rfl (T_load rfl rfl rfl rfl) ?_ rfl rfl (by kernel_rfl) (by kernel_rfl)
      refine D_take 9 rfl (pev_ok rfl) ?_ rfl rfl (by kernel_rfl) (by kernel_rfl)
      refine D_take 10 rfl (T_load rfl rfl rfl rfl) ?_ rfl rfl (by kernel_rfl) (by kernel_rfl)
      refine D_take 11 rfl (T_decT rfl (by omega)) ?_ rfl rfl (by kernel_rfl) (by kernel_rfl)
      refine D_take 12 rfl (T_decT rfl (by omega)) ?_ rfl rfl (by kernel_rfl) (by kernel_rfl)
      refine D_take 13 rfl (T_decT rfl (by omega)) ?_ rfl rfl (by kernel_rfl) (by kernel_rfl)
      refine D_skip 14 rfl ?_ rfl rfl (by kernel_rfl) (by kernel_rfl)
      refine D_skip 15 rfl ?_ rfl rfl (by kernel_rfl) (by kernel_rfl)
      refine D_skip 16 rfl ?_ rfl rfl (by kernel_rfl) (by kernel_rfl)
      refine D_skip 17 rfl ?_ rfl rfl (by kernel_rfl) (by kernel_rfl)
      refine D_skip 18 rfl ?_ rfl rfl (by kernel_rfl) (by kernel_rfl)
      refine D_skip 19 rfl ?_ rfl rfl (by kernel_rfl) (by kernel_rfl)
      refine D_skip 20 rfl ?_ rfl rfl (by kernel_rfl) (by kernel_rfl)
      refine D_skip 21 rfl ?_ rfl rfl (by kernel_rfl) (by kernel_rfl)
      refine D_skip 22 rfl ?_ rfl rfl (by kernel_rfl) (by kernel_rfl)
      refine D_skip 23 rfl ?_ rfl rfl (by kernel_rfl) (by kernel_rfl)
      refine D_skip 24 rfl ?_ rfl rfl (by kernel_rfl) (by kernel_rfl)
      refine D_skip 25 rfl ?_ rfl rfl (by kernel_rfl) (by kernel_rfl)
      refine D_skip 26 rfl ?_ rfl rfl (by kernel_rfl) (by kernel_rfl)
      refine D_skip 27 rfl ?_ rfl rfl (by kernel_rfl) (by kernel_rfl)
      refine D_skip 28 rfl ?_ rfl rfl (by kernel_rfl) (by kernel_rfl)
      refine D_skip 29 rfl ?_ rfl rfl (by kernel_rfl) (by kernel_rfl)
      refine D_skip 30 rfl ?_ rfl rfl (by kernel_rfl) (by kernel_rfl)
      refine D_skip 31 rfl ?_ rfl rfl (by kernel_rfl) (by kernel_rfl)
      refine D_skip 32 rfl ?_ rfl rfl (by kernel_rfl) (by kernel_rfl)
      refine D_skip 33 rfl ?_ rfl rfl (by kernel_rfl) (by kernel_rfl)
      refine D_skip 34 rfl ?_ rfl rfl (by kernel_rfl) (by kernel_rfl)
      refine D_skip 35 rfl ?_ rfl rfl (by kernel_rfl) (by kernel_rfl)
      refine D_skip 36 rfl ?_ rfl rfl (by kernel_rfl) (by kernel_rfl)
      refine D_skip 37 rfl ?_ rfl rfl (by kernel_rfl) (by kernel_rfl)
      refine D_skip 38 rfl ?_ rfl rfl (by kernel_rfl) (by kernel_rfl)
      refine D_skip 39 rfl ?_ rfl rfl (by kernel_rfl) (by kernel_rfl)
      refine D_skip 40 rfl ?_ rfl rfl (by kernel_rfl) (by kernel_rfl)
      refine D_take 41 rfl (T_decT rfl (by omega)) ?_ rfl rfl (by kernel_rfl) (by kernel_rfl)
      refine D_done ?_ (by kernel_rfl)
      skip
      focus (refine S_true rfl rfl ?_; refine S_seq rfl ?_; refine S_region rfl rfl ?_; refine R_p rfl ?_ rfl rfl; refine R_nil ?_)
      exact hB _ _ _ _ _ rfl rfl fun w' hS => ⟨(), rfl, trivial, hS.sublist (List.nil_sublist _)⟩
  have hjn : n2 = j := by omega
  subst hjn
  rw [hcb] at hr
  subst hr
  focus (refine S_seq rfl ?_; refine S_seq rfl ?_; refine S_region rfl rfl ?_; refine R_p rfl ?_ rfl rfl; refine R_p rfl ?_ rfl rfl; refine R_take (T_load rfl rfl rfl rfl) ?_ rfl rfl; refine R_p rfl ?_ rfl rfl; refine R_take (T_decF rfl (by omega)) ?_ rfl rfl; refine R_nil ?_; refine S_false rfl rfl ?_; refine S_exit rfl rfl ?_; refine S_seq rfl ?_; refine S_region rfl rfl ?_; refine R_p rfl ?_ rfl rfl; refine R_nil ?_)
  exact hB _ _ _ _ _ rfl rfl fun w' hS => ⟨(), rfl, trivial, hS.sublist (List.nil_sublist _)⟩
end Go.Proofs.Ytclmaoagdkhboaa
