/- Merges by the document: resolutions by one of the three. -/
import Derived.Test.YtghfjfgpiomdhaaMeC
namespace Go.Proofs.Ytghfjfgpiomdhaa
open Go.RowKit
open Asn (pt row rb)
set_option linter.unusedVariables false
set_option linter.unusedSimpArgs false
--@use N

set_option maxRecDepth 100000 in
set_option maxHeartbeats 4000000 in
theorem rtake_any (w : World) (A : Option Addr) (c0 : Nat) (Q : List Cn) (h : Rd w All 7 A Q.length (cellsL cnc Q)) (hn : Q.length ≤ 1000) (k : Int) :
    Gives Try.prog 25 [.slice A Q.length c0, zi k] [] w (X := Option Addr × Nat) (fun x => .agg #[.slice x.1 Q.length x.2]) (fun _ => True) (fun x => [row 73 3 x.1 Q.length x.2 (cellsL chc (takeC k Q))]) := by
  refine gives_C Try.func25 rfl Try.ntmps25 Try.results25 (by simp) (St.enter w) (fun B hB => ?_)
  have hne : 0 < Q.length → A ≠ none := fun h0 => by obtain ⟨ad, rfl, _⟩ := h.2 (by omega); simp
  focus (refine S_seq rfl ?_; refine S_region rfl rfl ?_; (refine R_eff (E_alloca (H := []) rfl ed_alloc) ?_ rfl rfl; rintro _ _ ⟨b4, rfl, rfl⟩); refine R_nil ?_; refine S_seq rfl ?_; refine S_region rfl rfl ?_; refine R_take (T_build0 ed_built0) ?_ rfl rfl; (refine R_eff (E_alloca rfl ed_alloc) ?_ rfl rfl; rintro _ _ ⟨b5, rfl, rfl⟩); (refine R_eff0 (E_storew (ds := [.slice none 0 0]) (cs := [.slice none 0 0]) rfl rfl rfl rfl (sl_one _ _ _) rfl) ?_ rfl; rintro _ _ rfl); refine R_nil ?_; refine S_seq rfl ?_; refine S_seq rfl ?_; refine S_region rfl rfl ?_; refine R_p rfl ?_ rfl rfl; refine R_nil ?_; refine S_block rfl ?_)
  refine S_loop (X := Nat × Option Addr × Nat) (fun x => [(0, .slice A Q.length c0), (1, zi k), (4, .pointer (some ⟨b4, 0, none⟩)), (5, .pointer (some ⟨b5, 0, none⟩)), (6, .int .i64 (x.1 : Int))]) (fun x => [row 73 3 x.2.1 x.1 x.2.2 (cellsL chc (takeC k (Q.take x.1))), pt b5 29 [.slice x.2.1 x.1 x.2.2], pt b4 29 [.slice none 0 0]]) (fun x => x.1 ≤ Q.length) (fun x => Q.length - x.1) rfl (0, none, 0) (Nat.zero_le _) (Sub.cons rfl (Sub.cons rfl (Sub.cons rfl (Sub.cons rfl (Sub.cons rfl Sub.nil))))) (fun w hS => sub_st (H' := [row 73 3 none 0 0 [], pt b5 29 [.slice none 0 0], pt b4 29 [.slice none 0 0]]) w (hS.nilrow 73 3)) ?_
  rintro ⟨j, A8, c8⟩ hj J hJ
  dsimp only at hj ⊢
  rcases Nat.lt_or_ge j Q.length with hjl | hjl
  · have hne := hne (by omega)
    have hat := cellsL_at (f := cnc) cnc_len Q default j hjl
    have hnx := fun c hc => takeC_next k Q j hjl (c := c) hc
    obtain ⟨c, hc⟩ : ∃ c, Q.getD j default = c := ⟨_, rfl⟩
    have hnx := hnx c hc
    rw [hc] at hat
    obtain ⟨p, b, o, t⟩ := c
    have hatb : ∀ e v, (sdc b)[e]? = some v → (cellsL cnc Q)[j * 7 + 1 + e]? = some v := fun e v he => by
      rw [Nat.add_assoc]; refine hat _ v ?_
      match e with
      | 0 => exact he
      | 1 => exact he
      | _ + 2 => cases he
    have hato : ∀ e v, (sdc o)[e]? = some v → (cellsL cnc Q)[j * 7 + 3 + e]? = some v := fun e v he => by
      rw [Nat.add_assoc]; refine hat _ v ?_
      match e with
      | 0 => exact he
      | 1 => exact he
      | _ + 2 => cases he
    have hatt : ∀ e v, (sdc t)[e]? = some v → (cellsL cnc Q)[j * 7 + 5 + e]? = some v := fun e v he => by
      rw [Nat.add_assoc]; refine hat _ v ?_
      match e with
      | 0 => exact he
      | 1 => exact he
      | _ + 2 => cases he
    have hatp : (cellsL cnc Q)[j * 7 + 0]? = some (sv p) := hat 0 _ rfl
    obtain ⟨⟨is, tx⟩, hs⟩ : ∃ s, sideI k (p, b, o, t) = s := ⟨_, rfl⟩
    rw [hs] at hnx
    obtain ⟨O, hO⟩ : ∃ O, takeC k (Q.take j) = O := ⟨_, rfl⟩
    have hOl : O.length = j := by rw [← hO, takeC_len, List.length_take]; omega
    rw [hO] at hnx ⊢
    focus (refine S_seq rfl ?_; refine S_seq rfl ?_; refine S_region rfl rfl ?_; refine R_p rfl ?_ rfl rfl; refine R_p rfl ?_ rfl rfl; refine R_p rfl ?_ rfl rfl; refine R_take (T_decT rfl (by omega)) ?_ rfl rfl; refine R_nil ?_; refine S_true rfl rfl ?_; refine S_skip rfl ?_; refine S_seq rfl ?_; refine S_block rfl ?_; refine S_seq rfl ?_; refine S_region rfl rfl ?_; refine R_p rfl ?_ rfl rfl; refine R_p rfl ?_ rfl rfl; refine R_take (T_ixM (sz := 7) rfl rfl rfl rfl rfl rfl hne hjl) ?_ rfl rfl; refine R_take (T_fap rfl rfl rfl rfl rfl hne) ?_ rfl rfl; refine R_take (T_lda (ds := sdc o) rfl rfl rfl (Srd.old h (fun k _ => noOwns k)) rfl (by omega) hato) ?_ rfl rfl; (refine R_eff (E_alloca rfl sd_zero) ?_ rfl rfl; rintro _ _ ⟨b7, rfl, rfl⟩); (refine R_eff0 (E_storew (cs := sdc default) (ds := sdc o) rfl rfl rfl rfl (sdc_one _) rfl) ?_ rfl; rintro _ _ rfl); refine R_nil ?_; refine S_seq rfl ?_; refine S_seq rfl ?_; refine S_region rfl rfl ?_; refine R_p rfl ?_ rfl rfl; refine R_p rfl ?_ rfl rfl; refine R_nil ?_)
    obtain ⟨x0, hx0⟩ : ∃ x, (if k = 0 then b else o) = x := ⟨_, rfl⟩
    have hs2 : (if k = 2 then t else x0) = (is, tx) := by
      rw [← hs, ← hx0]
      unfold sideI
      by_cases k0 : k = 0
      · rw [if_pos k0, if_neg (by omega), if_pos k0]
      · rw [if_neg k0, if_neg k0]
    refine S_cut (X := Unit) (fun _ => [(0, .slice A Q.length c0), (1, zi k), (4, .pointer (some ⟨b4, 0, none⟩)), (5, .pointer (some ⟨b5, 0, none⟩)), (6, .int .i64 (j : Int)), (7, .pointer (some ⟨b7, 0, none⟩))]) (fun _ => [pt b7 50 (sdc x0), row 73 3 A8 j c8 (cellsL chc O), pt b5 29 [.slice A8 j c8], pt b4 29 [.slice none 0 0]]) (fun _ => True) (fun J2 hJ2 => ?_) (fun _ _ => ?_)
    · refine S_if rfl rfl (fun k0 => ?_) (fun k0 => ?_)
      · rw [show x0 = b by rw [← hx0, if_pos k0]] at hJ2
        focus (refine S_region rfl rfl ?_; refine R_p rfl ?_ rfl rfl; refine R_p rfl ?_ rfl rfl; refine R_take (T_ixM (sz := 7) rfl rfl rfl rfl rfl rfl hne hjl) ?_ rfl rfl; refine R_take (T_fap rfl rfl rfl rfl rfl hne) ?_ rfl rfl; refine R_take (T_lda (ds := sdc b) rfl rfl rfl (Srd.old h (fun k _ => noOwns k)) rfl (by omega) hatb) ?_ rfl rfl; (refine R_eff0 (E_storew (cs := sdc o) (ds := sdc b) rfl rfl rfl rfl (sdc_one _) rfl) ?_ rfl; rintro _ _ rfl); refine R_nil ?_)
        exact hJ2 () _ _ trivial (Sub.cons rfl (Sub.cons rfl (Sub.cons rfl (Sub.cons rfl (Sub.cons rfl (Sub.cons rfl Sub.nil)))))) sub_st
      · rw [show x0 = o by rw [← hx0, if_neg k0]] at hJ2
        focus (refine S_skip rfl ?_)
        exact hJ2 () _ _ trivial (Sub.cons rfl (Sub.cons rfl (Sub.cons rfl (Sub.cons rfl (Sub.cons rfl (Sub.cons rfl Sub.nil)))))) sub_st
    refine S_seq rfl ?_
    refine S_cut (X := Unit) (fun _ => [(0, .slice A Q.length c0), (1, zi k), (4, .pointer (some ⟨b4, 0, none⟩)), (5, .pointer (some ⟨b5, 0, none⟩)), (6, .int .i64 (j : Int)), (7, .pointer (some ⟨b7, 0, none⟩))]) (fun _ => [pt b7 50 (sdc (is, tx)), row 73 3 A8 j c8 (cellsL chc O), pt b5 29 [.slice A8 j c8], pt b4 29 [.slice none 0 0]]) (fun _ => True) (fun J2 hJ2 => ?_) (fun _ _ => ?_)
    · by_cases k2 : k = 2
      · rw [show (is, tx) = t by rw [← hs2, if_pos k2]] at hJ2
        focus (refine S_seq rfl ?_; refine S_region rfl rfl ?_; refine R_p rfl ?_ rfl rfl; refine R_take (T_decT rfl (by assumption)) ?_ rfl rfl; refine R_nil ?_; refine S_true rfl rfl ?_; refine S_region rfl rfl ?_; refine R_p rfl ?_ rfl rfl; refine R_p rfl ?_ rfl rfl; refine R_take (T_ixM (sz := 7) rfl rfl rfl rfl rfl rfl hne hjl) ?_ rfl rfl; refine R_take (T_fap rfl rfl rfl rfl rfl hne) ?_ rfl rfl; refine R_take (T_lda (ds := sdc t) rfl rfl rfl (Srd.old h (fun k _ => noOwns k)) rfl (by omega) hatt) ?_ rfl rfl; (refine R_eff0 (E_storew (cs := sdc x0) (ds := sdc t) rfl rfl rfl rfl (sdc_one _) rfl) ?_ rfl; rintro _ _ rfl); refine R_nil ?_)
        exact hJ2 () _ _ trivial (Sub.cons rfl (Sub.cons rfl (Sub.cons rfl (Sub.cons rfl (Sub.cons rfl (Sub.cons rfl Sub.nil)))))) sub_st
      · rw [show (is, tx) = x0 by rw [← hs2, if_neg k2]] at hJ2
        focus (refine S_seq rfl ?_; refine S_region rfl rfl ?_; refine R_p rfl ?_ rfl rfl; refine R_take (T_decF rfl (by assumption)) ?_ rfl rfl; refine R_nil ?_; refine S_false rfl rfl ?_; refine S_skip rfl ?_)
        exact hJ2 () _ _ trivial (Sub.cons rfl (Sub.cons rfl (Sub.cons rfl (Sub.cons rfl (Sub.cons rfl (Sub.cons rfl Sub.nil)))))) sub_st
    skip
    refine S_draw ([pt b7 50 (sdc (is, tx)), pt b5 29 [.slice A8 j c8]]) sub_st (by kernel_rfl) rfl (by kernel_rfl) (by kernel_rfl : _ = 16) ?_
    refine D_take 0 rfl (pev_ok rfl) ?_ rfl rfl (by kernel_rfl) (by kernel_rfl)
    refine D_take 1 rfl (T_load rfl rfl rfl rfl) ?_ rfl rfl (by kernel_rfl) (by kernel_rfl)
    refine D_take 2 rfl (pev_ok rfl) ?_ rfl rfl (by kernel_rfl) (by kernel_rfl)
    refine D_take 3 rfl (pev_ok rfl) ?_ rfl rfl (by kernel_rfl) (by kernel_rfl)
    refine D_take 4 rfl (T_ixM (sz := 7) rfl rfl rfl rfl rfl rfl hne hjl) ?_ rfl rfl (by kernel_rfl) (by kernel_rfl)
    refine D_take 5 rfl (T_fap rfl rfl rfl rfl rfl hne) ?_ rfl rfl (by kernel_rfl) (by kernel_rfl)
    refine D_take 6 rfl (T_ldr rfl rfl rfl (Srd.old h (fun k _ => noOwns k)) (by omega) hatp) ?_ rfl rfl (by kernel_rfl) (by kernel_rfl)
    refine D_take 7 rfl (pev_ok rfl) ?_ rfl rfl (by kernel_rfl) (by kernel_rfl)
    refine D_take 8 rfl (T_load rfl rfl rfl rfl) ?_ rfl rfl (by kernel_rfl) (by kernel_rfl)
    refine D_take 9 rfl (pev_ok rfl) ?_ rfl rfl (by kernel_rfl) (by kernel_rfl)
    refine D_take 10 rfl (T_load rfl rfl rfl rfl) ?_ rfl rfl (by kernel_rfl) (by kernel_rfl)
    refine D_take 11 rfl (T_build3 rfl rfl rfl (ch_built3 p tx is)) ?_ rfl rfl (by kernel_rfl) (by kernel_rfl)
    refine D_one 12 rfl (E_litS (vs := [.agg (chc (p, is, tx)).toArray]) (size := 3) (ds := chc (p, is, tx)) rfl rfl rfl rfl rfl rfl (by simp [vcells, chc]) rfl (by omega)) ?_ rfl rfl (by kernel_rfl)
    rintro _ _ ⟨vb, rfl, rfl⟩
    refine Nx_same sub_st ?_
    refine D_one 13 rfl (E_appS (sz := 3) (m := j) (c := c8) (A := A8) rfl rfl rfl rfl rfl rfl rfl (by decide) (Srd.pt (n := 1) (g := vb) (ds := chc (p, is, tx)) rfl (fun j u hj => by rw [Nat.zero_add]; exact hj)) (chc_one _) (by show (j + 1) * 40 ≤ _; omega) (by unfold maxLen; omega)) ?_ rfl rfl (by kernel_rfl)
    rintro _ _ ⟨A7, c7, rfl, rfl⟩
    refine Nx_same sub_st ?_
    refine D_take 14 rfl (pev_ok rfl) ?_ rfl rfl (by kernel_rfl) (by kernel_rfl)
    refine D_one 15 rfl (E_store1 rfl rfl rfl rfl rfl rfl (by first | (simp; done) | (simp; omega) | decide)) ?_ rfl rfl (by kernel_rfl)
    rintro _ _ rfl
    refine Nx_pivot (by kernel_rfl) ?_
    refine D_done ?_ (by kernel_rfl)
    skip
    focus (refine RS_blk ?_; refine S_region rfl rfl ?_; refine R_p rfl ?_ rfl rfl; refine R_take (T_addN rfl rfl (by unfold fits; omega)) ?_ rfl rfl; refine R_p rfl ?_ rfl rfl; refine R_nil ?_)
    refine hJ (j + 1, A7, c7) _ _ (by show j + 1 ≤ _; omega) (Sub.cons rfl (Sub.cons rfl (Sub.cons rfl (Sub.cons rfl (Sub.cons rfl Sub.nil))))) (fun w' hS => ?_) (by dsimp only; omega)
    dsimp only
    have hnx : takeC k (Q.take (j + 1)) = O ++ [(p, is, tx)] := hnx
    rw [hnx, cellsL_app, cellsL_one]
    simp only [Nat.add_zero, List.set_cons_zero] at hS
    exact sub_st w' hS
  have hjn : j = Q.length := by omega
  subst hjn
  rw [List.take_length]
  focus (refine S_seq rfl ?_; refine S_seq rfl ?_; refine S_region rfl rfl ?_; refine R_p rfl ?_ rfl rfl; refine R_p rfl ?_ rfl rfl; refine R_p rfl ?_ rfl rfl; refine R_take (T_decF rfl (by omega)) ?_ rfl rfl; refine R_nil ?_; refine S_false rfl rfl ?_; refine S_exit rfl rfl ?_; refine S_seq rfl ?_; refine S_region rfl rfl ?_; refine R_take (T_loads (ds := [.slice A8 Q.length c8]) rfl rfl rfl rfl rfl) ?_ rfl rfl; (refine R_eff0 (E_storew (ds := [.slice A8 Q.length c8]) (cs := [.slice none 0 0]) rfl rfl rfl rfl (sl_one _ _ _) rfl) ?_ rfl; rintro _ _ rfl); refine R_nil ?_)
  exact hB _ _ _ _ _ rfl (.cell rfl rfl rfl inferInstance rfl .nil) fun w' hS => ⟨(A8, c8), rfl, trivial, sub_st _ hS⟩
end Go.Proofs.Ytghfjfgpiomdhaa
