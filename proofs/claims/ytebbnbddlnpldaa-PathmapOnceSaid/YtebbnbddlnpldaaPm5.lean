/- Which edits may be, by the document. -/
import Derived.Test.YtebbnbddlnpldaaPm4
namespace Go.Proofs.Ytebbnbddlnpldaa
open Go.RowKit
open Asn (pt row rb)
set_option linter.unusedVariables false
set_option linter.unusedSimpArgs false
--@use N

set_option maxRecDepth 100000 in
set_option maxHeartbeats 4000000 in
theorem rightC_any (w : World) (A : Option Addr) (n c : Nat) (L : List Ch) (h : Rd w All 3 A n (cellsL chc L)) (hn : n ≤ 100000) (hp : ∀ x ∈ L, x.1.length ≤ 100000) :
    Gives Try.prog 15 [.agg #[.slice A n c]] [] w (X := Unit) (fun _ => .bool (chkC L)) (fun _ => True) (fun _ => []) := by
  refine gives_S Try.func15 rfl Try.ntmps15 Try.results15 (by simp) (St.enter w) (fun B hB => ?_)
  have hl : L.length = n := by have := h.1; rw [cellsL_len chc_len] at this; omega
  have hne : 0 < n → A ≠ none := fun h0 => by obtain ⟨ad, rfl, _⟩ := h.2 (by omega); simp
  subst hl
  focus (refine S_seq rfl ?_; refine S_region rfl rfl ?_; (refine R_eff (E_boxa (cs := [.slice A L.length c]) rfl) ?_ rfl rfl; rintro _ _ ⟨b, rfl, rfl⟩); refine R_p rfl ?_ rfl rfl; refine R_nil ?_; refine S_seq rfl ?_; refine S_seq rfl ?_; refine S_region rfl rfl ?_; refine R_p rfl ?_ rfl rfl; refine R_nil ?_; refine S_block rfl ?_)
  refine S_loop (X := Nat) (fun j => [(1, .pointer (some ⟨b, 0, none⟩)), (3, .int .i64 (j : Int))]) (fun _ => [pt b 27 [.slice A L.length c]]) (fun j => j ≤ L.length ∧ j ≤ 32 ∧ goodC L j) (fun j => L.length - j) rfl 0 ⟨Nat.zero_le _, by omega, rfl, rfl⟩ (Sub.cons rfl (Sub.cons rfl Sub.nil)) sub_st ?_
  rintro j ⟨hj, hj32, hok⟩ J hJ
  rcases Nat.lt_or_ge j L.length with hjl | hjl
  · have hne := hne (by omega)
    have hat := fun e v => cellsL_at (f := chc) chc_len L default j hjl e v
    have hmem : L.getD j default ∈ L := by simp [List.getD, hjl]
    have hnx := goodC_next hjl hok
    rw [stepB, map_getD L j hjl] at hnx
    have hbd := goodC_bad hmem
    have hst := goodC_step hjl
    rw [stepB, map_getD L j hjl] at hst
    have hpl := hp _ hmem
    obtain ⟨⟨s, is, t⟩, hx⟩ : ∃ x, L.getD j default = x := ⟨_, rfl⟩
    rw [hx] at hat hmem hnx hbd hst hpl
    dsimp only at hnx hst hpl
    focus (refine S_seq rfl ?_; refine S_seq rfl ?_; refine S_region rfl rfl ?_; refine R_p rfl ?_ rfl rfl; refine R_p rfl ?_ rfl rfl; refine R_take (T_load rfl rfl rfl (by first | rfl | assumption)) ?_ rfl rfl; refine R_p rfl ?_ rfl rfl; refine R_take (T_decT rfl (by omega)) ?_ rfl rfl; refine R_nil ?_; refine S_true rfl rfl ?_; refine S_skip rfl ?_; refine S_seq rfl ?_; refine S_block rfl ?_; refine S_seq rfl ?_; refine S_region rfl rfl ?_; refine R_p rfl ?_ rfl rfl; refine R_take (T_load rfl rfl rfl (by first | rfl | assumption)) ?_ rfl rfl; refine R_p rfl ?_ rfl rfl; refine R_take (T_ixM (sz := 3) rfl rfl rfl rfl rfl rfl hne hjl) ?_ rfl rfl; refine R_take (T_lda (ds := chc (s, is, t)) rfl rfl rfl (Srd.old h (fun k _ => noOwns k)) rfl (by omega) hat) ?_ rfl rfl; (refine R_eff (E_alloca rfl chc_zero) ?_ rfl rfl; rintro _ _ ⟨b4, rfl, rfl⟩); (refine R_eff0 (E_storew (cs := chc default) (ds := chc (s, is, t)) rfl rfl rfl rfl (chc_one _) rfl) ?_ rfl; rintro _ _ rfl); refine R_nil ?_; refine S_seq rfl ?_)
    by_cases h32 : j = 32
    · skip
      refine S_draw ([pt b4 42 (chc (s, is, t)), pt b 27 [.slice A L.length c]]) sub_st (by kernel_rfl) rfl (by kernel_rfl) (by kernel_rfl : _ = 40) ?_
      refine D_take 0 rfl (pev_ok rfl) ?_ rfl rfl (by kernel_rfl) (by kernel_rfl)
      refine D_take 1 rfl (T_decT rfl (by omega)) ?_ rfl rfl (by kernel_rfl) (by kernel_rfl)
      refine D_take 2 rfl (pev_ok rfl) ?_ rfl rfl (by kernel_rfl) (by kernel_rfl)
      refine D_skip 3 rfl ?_ rfl rfl (by kernel_rfl) (by kernel_rfl)
      refine D_skip 4 rfl ?_ rfl rfl (by kernel_rfl) (by kernel_rfl)
      refine D_skip 5 rfl ?_ rfl rfl (by kernel_rfl) (by kernel_rfl)
      refine D_skip 6 rfl ?_ rfl rfl (by kernel_rfl) (by kernel_rfl)
      refine D_take 7 rfl (pev_ok rfl) ?_ rfl rfl (by kernel_rfl) (by kernel_rfl)
      refine D_take 8 rfl (pev_ok rfl) ?_ rfl rfl (by kernel_rfl) (by kernel_rfl)
      refine D_skip 9 rfl ?_ rfl rfl (by kernel_rfl) (by kernel_rfl)
      refine D_skip 10 rfl ?_ rfl rfl (by kernel_rfl) (by kernel_rfl)
      refine D_skip 11 rfl ?_ rfl rfl (by kernel_rfl) (by kernel_rfl)
      refine D_skip 12 rfl ?_ rfl rfl (by kernel_rfl) (by kernel_rfl)
      refine D_take 13 rfl (pev_ok rfl) ?_ rfl rfl (by kernel_rfl) (by kernel_rfl)
      refine D_take 14 rfl (pev_ok rfl) ?_ rfl rfl (by kernel_rfl) (by kernel_rfl)
      refine D_skip 15 rfl ?_ rfl rfl (by kernel_rfl) (by kernel_rfl)
      refine D_skip 16 rfl ?_ rfl rfl (by kernel_rfl) (by kernel_rfl)
      refine D_skip 17 rfl ?_ rfl rfl (by kernel_rfl) (by kernel_rfl)
      refine D_skip 18 rfl ?_ rfl rfl (by kernel_rfl) (by kernel_rfl)
      refine D_skip 19 rfl ?_ rfl rfl (by kernel_rfl) (by kernel_rfl)
      refine D_skip 20 rfl ?_ rfl rfl (by kernel_rfl) (by kernel_rfl)
      refine D_skip 21 rfl ?_ rfl rfl (by kernel_rfl) (by kernel_rfl)
      refine D_skip 22 rfl ?_ rfl rfl (by kernel_rfl) (by kernel_rfl)
      refine D_take 23 rfl (pev_ok rfl) ?_ rfl rfl (by kernel_rfl) (by kernel_rfl)
      refine D_take 24 rfl (pev_ok rfl) ?_ rfl rfl (by kernel_rfl) (by kernel_rfl)
      refine D_skip 25 rfl ?_ rfl rfl (by kernel_rfl) (by kernel_rfl)
      refine D_skip 26 rfl ?_ rfl rfl (by kernel_rfl) (by kernel_rfl)
      refine D_skip 27 rfl ?_ rfl rfl (by kernel_rfl) (by kernel_rfl)
      refine D_skip 28 rfl ?_ rfl rfl (by kernel_rfl) (by kernel_rfl)
      refine D_skip 29 rfl ?_ rfl rfl (by kernel_rfl) (by kernel_rfl)
      refine D_skip 30 rfl ?_ rfl rfl (by kernel_rfl) (by kernel_rfl)
      refine D_skip 31 rfl ?_ rfl rfl (by kernel_rfl) (by kernel_rfl)
      refine D_skip 32 rfl ?_ rfl rfl (by kernel_rfl) (by kernel_rfl)
      refine D_skip 33 rfl ?_ rfl rfl (by kernel_rfl) (by kernel_rfl)
      refine D_skip 34 rfl ?_ rfl rfl (by kernel_rfl) (by kernel_rfl)
      refine D_skip 35 rfl ?_ rfl rfl (by kernel_rfl) (by kernel_rfl)
      refine D_skip 36 rfl ?_ rfl rfl (by kernel_rfl) (by kernel_rfl)
      refine D_skip 37 rfl ?_ rfl rfl (by kernel_rfl) (by kernel_rfl)
      refine D_skip 38 rfl ?_ rfl rfl (by kernel_rfl) (by kernel_rfl)
      refine D_take 39 rfl (pev_ok rfl) ?_ rfl rfl (by kernel_rfl) (by kernel_rfl)
      refine D_done ?_ (by kernel_rfl)
      skip
      focus (refine S_true rfl rfl ?_; refine S_seq rfl ?_; refine S_region rfl rfl ?_; refine R_p rfl ?_ rfl rfl; refine R_nil ?_)
      refine hB _ _ _ _ _ rfl rfl fun w' hS => ⟨(), ?_, trivial, hS.sublist (List.nil_sublist _)⟩
      rw [goodC_full (by omega)]
      rfl
    obtain ⟨r, hr⟩ : ∃ r, pathB s = r := ⟨_, rfl⟩
    rw [hr] at hnx hst
    cases r
    · skip
      refine S_draw ([pt b4 42 (chc (s, is, t)), pt b 27 [.slice A L.length c]]) sub_st (by kernel_rfl) rfl (by kernel_rfl) (by kernel_rfl : _ = 40) ?_
      refine D_take 0 rfl (pev_ok rfl) ?_ rfl rfl (by kernel_rfl) (by kernel_rfl)
      refine D_take 1 rfl (T_decF rfl (by omega)) ?_ rfl rfl (by kernel_rfl) (by kernel_rfl)
      refine D_take 2 rfl (pev_ok rfl) ?_ rfl rfl (by kernel_rfl) (by kernel_rfl)
      refine D_take 3 rfl (pev_ok rfl) ?_ rfl rfl (by kernel_rfl) (by kernel_rfl)
      refine D_take 4 rfl (T_load rfl rfl rfl (by first | rfl | assumption)) ?_ rfl rfl (by kernel_rfl) (by kernel_rfl)
      refine D_one 5 rfl (E_rpathW (a := s) (r := false) rfl hpl hr) ?_ rfl rfl (by kernel_rfl)
      rintro _ _ ⟨rfl, rfl⟩
      refine Nx_same sub_st ?_
      refine D_take 6 rfl (T_not rfl) ?_ rfl rfl (by kernel_rfl) (by kernel_rfl)
      refine D_take 7 rfl (pev_ok rfl) ?_ rfl rfl (by kernel_rfl) (by kernel_rfl)
      refine D_take 8 rfl (pev_ok rfl) ?_ rfl rfl (by kernel_rfl) (by kernel_rfl)
      refine D_skip 9 rfl ?_ rfl rfl (by kernel_rfl) (by kernel_rfl)
      refine D_skip 10 rfl ?_ rfl rfl (by kernel_rfl) (by kernel_rfl)
      refine D_skip 11 rfl ?_ rfl rfl (by kernel_rfl) (by kernel_rfl)
      refine D_skip 12 rfl ?_ rfl rfl (by kernel_rfl) (by kernel_rfl)
      refine D_take 13 rfl (pev_ok rfl) ?_ rfl rfl (by kernel_rfl) (by kernel_rfl)
      refine D_take 14 rfl (pev_ok rfl) ?_ rfl rfl (by kernel_rfl) (by kernel_rfl)
      refine D_skip 15 rfl ?_ rfl rfl (by kernel_rfl) (by kernel_rfl)
      refine D_skip 16 rfl ?_ rfl rfl (by kernel_rfl) (by kernel_rfl)
      refine D_skip 17 rfl ?_ rfl rfl (by kernel_rfl) (by kernel_rfl)
      refine D_skip 18 rfl ?_ rfl rfl (by kernel_rfl) (by kernel_rfl)
      refine D_skip 19 rfl ?_ rfl rfl (by kernel_rfl) (by kernel_rfl)
      refine D_skip 20 rfl ?_ rfl rfl (by kernel_rfl) (by kernel_rfl)
      refine D_skip 21 rfl ?_ rfl rfl (by kernel_rfl) (by kernel_rfl)
      refine D_skip 22 rfl ?_ rfl rfl (by kernel_rfl) (by kernel_rfl)
      refine D_take 23 rfl (pev_ok rfl) ?_ rfl rfl (by kernel_rfl) (by kernel_rfl)
      refine D_take 24 rfl (pev_ok rfl) ?_ rfl rfl (by kernel_rfl) (by kernel_rfl)
      refine D_skip 25 rfl ?_ rfl rfl (by kernel_rfl) (by kernel_rfl)
      refine D_skip 26 rfl ?_ rfl rfl (by kernel_rfl) (by kernel_rfl)
      refine D_skip 27 rfl ?_ rfl rfl (by kernel_rfl) (by kernel_rfl)
      refine D_skip 28 rfl ?_ rfl rfl (by kernel_rfl) (by kernel_rfl)
      refine D_skip 29 rfl ?_ rfl rfl (by kernel_rfl) (by kernel_rfl)
      refine D_skip 30 rfl ?_ rfl rfl (by kernel_rfl) (by kernel_rfl)
      refine D_skip 31 rfl ?_ rfl rfl (by kernel_rfl) (by kernel_rfl)
      refine D_skip 32 rfl ?_ rfl rfl (by kernel_rfl) (by kernel_rfl)
      refine D_skip 33 rfl ?_ rfl rfl (by kernel_rfl) (by kernel_rfl)
      refine D_skip 34 rfl ?_ rfl rfl (by kernel_rfl) (by kernel_rfl)
      refine D_skip 35 rfl ?_ rfl rfl (by kernel_rfl) (by kernel_rfl)
      refine D_skip 36 rfl ?_ rfl rfl (by kernel_rfl) (by kernel_rfl)
      refine D_skip 37 rfl ?_ rfl rfl (by kernel_rfl) (by kernel_rfl)
      refine D_skip 38 rfl ?_ rfl rfl (by kernel_rfl) (by kernel_rfl)
      refine D_take 39 rfl (pev_ok rfl) ?_ rfl rfl (by kernel_rfl) (by kernel_rfl)
      refine D_done ?_ (by kernel_rfl)
      skip
      focus (refine S_true rfl rfl ?_; refine S_seq rfl ?_; refine S_region rfl rfl ?_; refine R_p rfl ?_ rfl rfl; refine R_nil ?_)
      refine hB _ _ _ _ _ rfl rfl fun w' hS => ⟨(), ?_, trivial, hS.sublist (List.nil_sublist _)⟩
      rw [hst rfl]
      rfl
    rw [Bool.true_and] at hnx hst
    by_cases ht : 256 < t.length
    · skip
      refine S_draw ([pt b4 42 (chc (s, is, t)), pt b 27 [.slice A L.length c]]) sub_st (by kernel_rfl) rfl (by kernel_rfl) (by kernel_rfl : _ = 40) ?_
      refine D_take 0 rfl (pev_ok rfl) ?_ rfl rfl (by kernel_rfl) (by kernel_rfl)
      refine D_take 1 rfl (T_decF rfl (by omega)) ?_ rfl rfl (by kernel_rfl) (by kernel_rfl)
      refine D_take 2 rfl (pev_ok rfl) ?_ rfl rfl (by kernel_rfl) (by kernel_rfl)
      refine D_take 3 rfl (pev_ok rfl) ?_ rfl rfl (by kernel_rfl) (by kernel_rfl)
      refine D_take 4 rfl (T_load rfl rfl rfl (by first | rfl | assumption)) ?_ rfl rfl (by kernel_rfl) (by kernel_rfl)
      refine D_one 5 rfl (E_rpathW (a := s) (r := true) rfl hpl hr) ?_ rfl rfl (by kernel_rfl)
      rintro _ _ ⟨rfl, rfl⟩
      refine Nx_same sub_st ?_
      refine D_take 6 rfl (T_not rfl) ?_ rfl rfl (by kernel_rfl) (by kernel_rfl)
      refine D_take 7 rfl (pev_ok rfl) ?_ rfl rfl (by kernel_rfl) (by kernel_rfl)
      refine D_take 8 rfl (pev_ok rfl) ?_ rfl rfl (by kernel_rfl) (by kernel_rfl)
      refine D_take 9 rfl (pev_ok rfl) ?_ rfl rfl (by kernel_rfl) (by kernel_rfl)
      refine D_take 10 rfl (T_load rfl rfl rfl (by first | rfl | assumption)) ?_ rfl rfl (by kernel_rfl) (by kernel_rfl)
      refine D_take 11 rfl (T_lens (a := t) rfl rfl rfl) ?_ rfl rfl (by kernel_rfl) (by kernel_rfl)
      refine D_take 12 rfl (T_decT rfl (by omega)) ?_ rfl rfl (by kernel_rfl) (by kernel_rfl)
      refine D_take 13 rfl (pev_ok rfl) ?_ rfl rfl (by kernel_rfl) (by kernel_rfl)
      refine D_take 14 rfl (pev_ok rfl) ?_ rfl rfl (by kernel_rfl) (by kernel_rfl)
      refine D_skip 15 rfl ?_ rfl rfl (by kernel_rfl) (by kernel_rfl)
      refine D_skip 16 rfl ?_ rfl rfl (by kernel_rfl) (by kernel_rfl)
      refine D_skip 17 rfl ?_ rfl rfl (by kernel_rfl) (by kernel_rfl)
      refine D_skip 18 rfl ?_ rfl rfl (by kernel_rfl) (by kernel_rfl)
      refine D_skip 19 rfl ?_ rfl rfl (by kernel_rfl) (by kernel_rfl)
      refine D_skip 20 rfl ?_ rfl rfl (by kernel_rfl) (by kernel_rfl)
      refine D_skip 21 rfl ?_ rfl rfl (by kernel_rfl) (by kernel_rfl)
      refine D_skip 22 rfl ?_ rfl rfl (by kernel_rfl) (by kernel_rfl)
      refine D_take 23 rfl (pev_ok rfl) ?_ rfl rfl (by kernel_rfl) (by kernel_rfl)
      refine D_take 24 rfl (pev_ok rfl) ?_ rfl rfl (by kernel_rfl) (by kernel_rfl)
      refine D_skip 25 rfl ?_ rfl rfl (by kernel_rfl) (by kernel_rfl)
      refine D_skip 26 rfl ?_ rfl rfl (by kernel_rfl) (by kernel_rfl)
      refine D_skip 27 rfl ?_ rfl rfl (by kernel_rfl) (by kernel_rfl)
      refine D_skip 28 rfl ?_ rfl rfl (by kernel_rfl) (by kernel_rfl)
      refine D_skip 29 rfl ?_ rfl rfl (by kernel_rfl) (by kernel_rfl)
      refine D_skip 30 rfl ?_ rfl rfl (by kernel_rfl) (by kernel_rfl)
      refine D_skip 31 rfl ?_ rfl rfl (by kernel_rfl) (by kernel_rfl)
      refine D_skip 32 rfl ?_ rfl rfl (by kernel_rfl) (by kernel_rfl)
      refine D_skip 33 rfl ?_ rfl rfl (by kernel_rfl) (by kernel_rfl)
      refine D_skip 34 rfl ?_ rfl rfl (by kernel_rfl) (by kernel_rfl)
      refine D_skip 35 rfl ?_ rfl rfl (by kernel_rfl) (by kernel_rfl)
      refine D_skip 36 rfl ?_ rfl rfl (by kernel_rfl) (by kernel_rfl)
      refine D_skip 37 rfl ?_ rfl rfl (by kernel_rfl) (by kernel_rfl)
      refine D_skip 38 rfl ?_ rfl rfl (by kernel_rfl) (by kernel_rfl)
      refine D_take 39 rfl (pev_ok rfl) ?_ rfl rfl (by kernel_rfl) (by kernel_rfl)
      refine D_done ?_ (by kernel_rfl)
      skip
      focus (refine S_true rfl rfl ?_; refine S_seq rfl ?_; refine S_region rfl rfl ?_; refine R_p rfl ?_ rfl rfl; refine R_nil ?_)
      refine hB _ _ _ _ _ rfl rfl fun w' hS => ⟨(), ?_, trivial, hS.sublist (List.nil_sublist _)⟩
      rw [hbd (by simp [badC, ht])]
      rfl
    have hn0 : scmp .neq t [] = some (decide (t ≠ [])) := rfl
    obtain ⟨e, he⟩ : ∃ e, (!is && decide (t ≠ [])) = e := ⟨_, rfl⟩
    have hbc : badC (s, is, t) = e := by
      rw [badC, he]
      show (decide (256 < t.length) || e) = e
      rw [decide_eq_false ht, Bool.false_or]
    obtain ⟨e1, he1⟩ : ∃ e1, decide (t ≠ []) = e1 := ⟨_, rfl⟩
    rw [he1] at hn0 he
    rw [hbc] at hbd
    cases is
    · cases e1
      · skip
        obtain rfl : e = false := he.symm
        have hnx := hnx hbc
        rcases Nat.eq_zero_or_pos j with hj0 | hj0
        · subst hj0
          refine S_draw ([pt b4 42 (chc (s, false, t)), pt b 27 [.slice A L.length c]]) sub_st (by kernel_rfl) rfl (by kernel_rfl) (by kernel_rfl : _ = 40) ?_
          refine D_take 0 rfl (pev_ok rfl) ?_ rfl rfl (by kernel_rfl) (by kernel_rfl)
          refine D_take 1 rfl (T_decF rfl (by omega)) ?_ rfl rfl (by kernel_rfl) (by kernel_rfl)
          refine D_take 2 rfl (T_decF rfl (by omega)) ?_ rfl rfl (by kernel_rfl) (by kernel_rfl)
          refine D_take 3 rfl (pev_ok rfl) ?_ rfl rfl (by kernel_rfl) (by kernel_rfl)
          refine D_take 4 rfl (T_load rfl rfl rfl (by first | rfl | assumption)) ?_ rfl rfl (by kernel_rfl) (by kernel_rfl)
          refine D_one 5 rfl (E_rpathW (a := s) (r := true) rfl hpl hr) ?_ rfl rfl (by kernel_rfl)
          rintro _ _ ⟨rfl, rfl⟩
          refine Nx_same sub_st ?_
          refine D_take 6 rfl (T_not rfl) ?_ rfl rfl (by kernel_rfl) (by kernel_rfl)
          refine D_take 7 rfl (T_decF rfl (by omega)) ?_ rfl rfl (by kernel_rfl) (by kernel_rfl)
          refine D_take 8 rfl (T_decF rfl (by omega)) ?_ rfl rfl (by kernel_rfl) (by kernel_rfl)
          refine D_take 9 rfl (pev_ok rfl) ?_ rfl rfl (by kernel_rfl) (by kernel_rfl)
          refine D_take 10 rfl (T_load rfl rfl rfl (by first | rfl | assumption)) ?_ rfl rfl (by kernel_rfl) (by kernel_rfl)
          refine D_take 11 rfl (T_lens (a := t) rfl rfl rfl) ?_ rfl rfl (by kernel_rfl) (by kernel_rfl)
          refine D_take 12 rfl (T_decF rfl (by omega)) ?_ rfl rfl (by kernel_rfl) (by kernel_rfl)
          refine D_take 13 rfl (T_decF rfl (by omega)) ?_ rfl rfl (by kernel_rfl) (by kernel_rfl)
          refine D_take 14 rfl (T_decF rfl (by omega)) ?_ rfl rfl (by kernel_rfl) (by kernel_rfl)
          refine D_take 15 rfl (pev_ok rfl) ?_ rfl rfl (by kernel_rfl) (by kernel_rfl)
          refine D_take 16 rfl (T_load rfl rfl rfl (by first | rfl | assumption)) ?_ rfl rfl (by kernel_rfl) (by kernel_rfl)
          refine D_take 17 rfl (T_not rfl) ?_ rfl rfl (by kernel_rfl) (by kernel_rfl)
          refine D_take 18 rfl (pev_ok rfl) ?_ rfl rfl (by kernel_rfl) (by kernel_rfl)
          refine D_take 19 rfl (pev_ok rfl) ?_ rfl rfl (by kernel_rfl) (by kernel_rfl)
          refine D_take 20 rfl (T_load rfl rfl rfl (by first | rfl | assumption)) ?_ rfl rfl (by kernel_rfl) (by kernel_rfl)
          refine D_take 21 rfl (T_scm (a := t) (b := []) rfl rfl hn0) ?_ rfl rfl (by kernel_rfl) (by kernel_rfl)
          refine D_take 22 rfl (T_decF rfl (by omega)) ?_ rfl rfl (by kernel_rfl) (by kernel_rfl)
          refine D_take 23 rfl (T_decF rfl (by omega)) ?_ rfl rfl (by kernel_rfl) (by kernel_rfl)
          refine D_take 24 rfl (T_decF rfl (by omega)) ?_ rfl rfl (by kernel_rfl) (by kernel_rfl)
          refine D_take 25 rfl (pev_ok rfl) ?_ rfl rfl (by kernel_rfl) (by kernel_rfl)
          refine D_take 26 rfl (T_decF rfl (by omega)) ?_ rfl rfl (by kernel_rfl) (by kernel_rfl)
          refine D_take 27 rfl (T_decF rfl (by omega)) ?_ rfl rfl (by kernel_rfl) (by kernel_rfl)
          refine D_skip 28 rfl ?_ rfl rfl (by kernel_rfl) (by kernel_rfl)
          refine D_skip 29 rfl ?_ rfl rfl (by kernel_rfl) (by kernel_rfl)
          refine D_skip 30 rfl ?_ rfl rfl (by kernel_rfl) (by kernel_rfl)
          refine D_skip 31 rfl ?_ rfl rfl (by kernel_rfl) (by kernel_rfl)
          refine D_skip 32 rfl ?_ rfl rfl (by kernel_rfl) (by kernel_rfl)
          refine D_skip 33 rfl ?_ rfl rfl (by kernel_rfl) (by kernel_rfl)
          refine D_skip 34 rfl ?_ rfl rfl (by kernel_rfl) (by kernel_rfl)
          refine D_skip 35 rfl ?_ rfl rfl (by kernel_rfl) (by kernel_rfl)
          refine D_skip 36 rfl ?_ rfl rfl (by kernel_rfl) (by kernel_rfl)
          refine D_skip 37 rfl ?_ rfl rfl (by kernel_rfl) (by kernel_rfl)
          refine D_take 38 rfl (T_decF rfl (by omega)) ?_ rfl rfl (by kernel_rfl) (by kernel_rfl)
          refine D_take 39 rfl (T_decF rfl (by omega)) ?_ rfl rfl (by kernel_rfl) (by kernel_rfl)
          refine D_done ?_ (by kernel_rfl)
          skip
          focus (refine S_false rfl rfl ?_; refine S_skip rfl ?_; refine RS_blk ?_; refine S_region rfl rfl ?_; refine R_p rfl ?_ rfl rfl; refine R_take (T_addN rfl rfl (by unfold fits; omega)) ?_ rfl rfl; refine R_p rfl ?_ rfl rfl; refine R_nil ?_)
          exact hJ 1 _ _ ⟨by omega, by omega, hnx rfl⟩ (Sub.cons rfl (Sub.cons rfl Sub.nil)) sub_st (by omega)
        obtain ⟨i, rfl⟩ : ∃ i, j = i + 1 := ⟨j - 1, by omega⟩
        have hat2 := fun e v => cellsL_at (f := chc) chc_len L default i (by omega) e v
        rw [Nat.add_sub_cancel, map_getD L i (by omega)] at hnx hst
        obtain ⟨⟨u, u2, u3⟩, hy⟩ : ∃ y, L.getD i default = y := ⟨_, rfl⟩
        rw [hy] at hat2 hnx hst
        have hat2 : (cellsL chc L)[i * 3 + 0]? = some (sv u) := hat2 0 _ rfl
        dsimp only at hnx hst
        have hcm : scmp .leq s u = some (!Op.bytesLess u s) := congrArg some (less_or s u)
        obtain ⟨q, hq⟩ : ∃ q, Op.bytesLess u s = q := ⟨_, rfl⟩
        rw [hq] at hnx hst hcm
        refine S_draw ([pt b4 42 (chc (s, false, t)), pt b 27 [.slice A L.length c]]) sub_st (by kernel_rfl) rfl (by kernel_rfl) (by kernel_rfl : _ = 40) ?_
        refine D_take 0 rfl (pev_ok rfl) ?_ rfl rfl (by kernel_rfl) (by kernel_rfl)
        refine D_take 1 rfl (T_decF rfl (by omega)) ?_ rfl rfl (by kernel_rfl) (by kernel_rfl)
        refine D_take 2 rfl (pev_ok rfl) ?_ rfl rfl (by kernel_rfl) (by kernel_rfl)
        refine D_take 3 rfl (pev_ok rfl) ?_ rfl rfl (by kernel_rfl) (by kernel_rfl)
        refine D_take 4 rfl (T_load rfl rfl rfl (by first | rfl | assumption)) ?_ rfl rfl (by kernel_rfl) (by kernel_rfl)
        refine D_one 5 rfl (E_rpathW (a := s) (r := true) rfl hpl hr) ?_ rfl rfl (by kernel_rfl)
        rintro _ _ ⟨rfl, rfl⟩
        refine Nx_same sub_st ?_
        refine D_take 6 rfl (T_not rfl) ?_ rfl rfl (by kernel_rfl) (by kernel_rfl)
        refine D_take 7 rfl (pev_ok rfl) ?_ rfl rfl (by kernel_rfl) (by kernel_rfl)
        refine D_take 8 rfl (pev_ok rfl) ?_ rfl rfl (by kernel_rfl) (by kernel_rfl)
        refine D_take 9 rfl (pev_ok rfl) ?_ rfl rfl (by kernel_rfl) (by kernel_rfl)
        refine D_take 10 rfl (T_load rfl rfl rfl (by first | rfl | assumption)) ?_ rfl rfl (by kernel_rfl) (by kernel_rfl)
        refine D_take 11 rfl (T_lens (a := t) rfl rfl rfl) ?_ rfl rfl (by kernel_rfl) (by kernel_rfl)
        refine D_take 12 rfl (T_decF rfl (by omega)) ?_ rfl rfl (by kernel_rfl) (by kernel_rfl)
        refine D_take 13 rfl (pev_ok rfl) ?_ rfl rfl (by kernel_rfl) (by kernel_rfl)
        refine D_take 14 rfl (pev_ok rfl) ?_ rfl rfl (by kernel_rfl) (by kernel_rfl)
        refine D_take 15 rfl (pev_ok rfl) ?_ rfl rfl (by kernel_rfl) (by kernel_rfl)
        refine D_take 16 rfl (T_load rfl rfl rfl (by first | rfl | assumption)) ?_ rfl rfl (by kernel_rfl) (by kernel_rfl)
        refine D_take 17 rfl (T_not rfl) ?_ rfl rfl (by kernel_rfl) (by kernel_rfl)
        refine D_take 18 rfl (pev_ok rfl) ?_ rfl rfl (by kernel_rfl) (by kernel_rfl)
        refine D_take 19 rfl (pev_ok rfl) ?_ rfl rfl (by kernel_rfl) (by kernel_rfl)
        refine D_take 20 rfl (T_load rfl rfl rfl (by first | rfl | assumption)) ?_ rfl rfl (by kernel_rfl) (by kernel_rfl)
        refine D_take 21 rfl (T_scm (a := t) (b := []) rfl rfl hn0) ?_ rfl rfl (by kernel_rfl) (by kernel_rfl)
        refine D_take 22 rfl (pev_ok rfl) ?_ rfl rfl (by kernel_rfl) (by kernel_rfl)
        refine D_take 23 rfl (pev_ok rfl) ?_ rfl rfl (by kernel_rfl) (by kernel_rfl)
        refine D_take 24 rfl (pev_ok rfl) ?_ rfl rfl (by kernel_rfl) (by kernel_rfl)
        refine D_take 25 rfl (pev_ok rfl) ?_ rfl rfl (by kernel_rfl) (by kernel_rfl)
        refine D_take 26 rfl (T_decT rfl (by omega)) ?_ rfl rfl (by kernel_rfl) (by kernel_rfl)
        refine D_take 27 rfl (pev_ok rfl) ?_ rfl rfl (by kernel_rfl) (by kernel_rfl)
        refine D_take 28 rfl (pev_ok rfl) ?_ rfl rfl (by kernel_rfl) (by kernel_rfl)
        refine D_take 29 rfl (T_load rfl rfl rfl (by first | rfl | assumption)) ?_ rfl rfl (by kernel_rfl) (by kernel_rfl)
        refine D_take 30 rfl (pev_ok rfl) ?_ rfl rfl (by kernel_rfl) (by kernel_rfl)
        refine D_take 31 rfl (T_load rfl rfl rfl (by first | rfl | assumption)) ?_ rfl rfl (by kernel_rfl) (by kernel_rfl)
        refine D_take 32 rfl (pev_ok rfl) ?_ rfl rfl (by kernel_rfl) (by kernel_rfl)
        (refine D_take 33 rfl (T_subN rfl rfl (by omega) (by unfold fits; omega)) ?_ rfl rfl (by kernel_rfl) (by kernel_rfl))
        refine D_take 34 rfl (T_ixM (sz := 3) (q := i) rfl rfl rfl rfl rfl rfl hne (by omega)) ?_ rfl rfl (by kernel_rfl) (by kernel_rfl)
        refine D_take 35 rfl (T_fap rfl rfl rfl rfl rfl hne) ?_ rfl rfl (by kernel_rfl) (by kernel_rfl)
        refine D_take 36 rfl (T_ldr rfl rfl rfl (Srd.old h (fun k _ => noOwns k)) (by omega) hat2) ?_ rfl rfl (by kernel_rfl) (by kernel_rfl)
        refine D_take 37 rfl (T_scm (a := s) (b := u) rfl rfl hcm) ?_ rfl rfl (by kernel_rfl) (by kernel_rfl)
        refine D_take 38 rfl (pev_ok rfl) ?_ rfl rfl (by kernel_rfl) (by kernel_rfl)
        refine D_take 39 rfl (pev_ok rfl) ?_ rfl rfl (by kernel_rfl) (by kernel_rfl)
        refine D_done ?_ (by kernel_rfl)
        skip
        cases q
        · focus (refine S_true rfl rfl ?_; refine S_seq rfl ?_; refine S_region rfl rfl ?_; refine R_p rfl ?_ rfl rfl; refine R_nil ?_)
          refine hB _ _ _ _ _ rfl rfl fun w' hS => ⟨(), ?_, trivial, hS.sublist (List.nil_sublist _)⟩
          rw [hst (by simp)]
          rfl
        · focus (refine S_false rfl rfl ?_; refine S_skip rfl ?_; refine RS_blk ?_; refine S_region rfl rfl ?_; refine R_p rfl ?_ rfl rfl; refine R_take (T_addN rfl rfl (by unfold fits; omega)) ?_ rfl rfl; refine R_p rfl ?_ rfl rfl; refine R_nil ?_)
          exact hJ (i + 2) _ _ ⟨by omega, by omega, hnx (by simp)⟩ (Sub.cons rfl (Sub.cons rfl Sub.nil)) sub_st (by omega)
      · skip
        refine S_draw ([pt b4 42 (chc (s, false, t)), pt b 27 [.slice A L.length c]]) sub_st (by kernel_rfl) rfl (by kernel_rfl) (by kernel_rfl : _ = 40) ?_
        refine D_take 0 rfl (pev_ok rfl) ?_ rfl rfl (by kernel_rfl) (by kernel_rfl)
        refine D_take 1 rfl (T_decF rfl (by omega)) ?_ rfl rfl (by kernel_rfl) (by kernel_rfl)
        refine D_take 2 rfl (pev_ok rfl) ?_ rfl rfl (by kernel_rfl) (by kernel_rfl)
        refine D_take 3 rfl (pev_ok rfl) ?_ rfl rfl (by kernel_rfl) (by kernel_rfl)
        refine D_take 4 rfl (T_load rfl rfl rfl (by first | rfl | assumption)) ?_ rfl rfl (by kernel_rfl) (by kernel_rfl)
        refine D_one 5 rfl (E_rpathW (a := s) (r := true) rfl hpl hr) ?_ rfl rfl (by kernel_rfl)
        rintro _ _ ⟨rfl, rfl⟩
        refine Nx_same sub_st ?_
        refine D_take 6 rfl (T_not rfl) ?_ rfl rfl (by kernel_rfl) (by kernel_rfl)
        refine D_take 7 rfl (pev_ok rfl) ?_ rfl rfl (by kernel_rfl) (by kernel_rfl)
        refine D_take 8 rfl (pev_ok rfl) ?_ rfl rfl (by kernel_rfl) (by kernel_rfl)
        refine D_take 9 rfl (pev_ok rfl) ?_ rfl rfl (by kernel_rfl) (by kernel_rfl)
        refine D_take 10 rfl (T_load rfl rfl rfl (by first | rfl | assumption)) ?_ rfl rfl (by kernel_rfl) (by kernel_rfl)
        refine D_take 11 rfl (T_lens (a := t) rfl rfl rfl) ?_ rfl rfl (by kernel_rfl) (by kernel_rfl)
        refine D_take 12 rfl (T_decF rfl (by omega)) ?_ rfl rfl (by kernel_rfl) (by kernel_rfl)
        refine D_take 13 rfl (pev_ok rfl) ?_ rfl rfl (by kernel_rfl) (by kernel_rfl)
        refine D_take 14 rfl (pev_ok rfl) ?_ rfl rfl (by kernel_rfl) (by kernel_rfl)
        refine D_take 15 rfl (pev_ok rfl) ?_ rfl rfl (by kernel_rfl) (by kernel_rfl)
        refine D_take 16 rfl (T_load rfl rfl rfl (by first | rfl | assumption)) ?_ rfl rfl (by kernel_rfl) (by kernel_rfl)
        refine D_take 17 rfl (T_not rfl) ?_ rfl rfl (by kernel_rfl) (by kernel_rfl)
        refine D_take 18 rfl (pev_ok rfl) ?_ rfl rfl (by kernel_rfl) (by kernel_rfl)
        refine D_take 19 rfl (pev_ok rfl) ?_ rfl rfl (by kernel_rfl) (by kernel_rfl)
        refine D_take 20 rfl (T_load rfl rfl rfl (by first | rfl | assumption)) ?_ rfl rfl (by kernel_rfl) (by kernel_rfl)
        refine D_take 21 rfl (T_scm (a := t) (b := []) rfl rfl hn0) ?_ rfl rfl (by kernel_rfl) (by kernel_rfl)
        refine D_take 22 rfl (pev_ok rfl) ?_ rfl rfl (by kernel_rfl) (by kernel_rfl)
        refine D_take 23 rfl (pev_ok rfl) ?_ rfl rfl (by kernel_rfl) (by kernel_rfl)
        refine D_take 24 rfl (pev_ok rfl) ?_ rfl rfl (by kernel_rfl) (by kernel_rfl)
        refine D_skip 25 rfl ?_ rfl rfl (by kernel_rfl) (by kernel_rfl)
        refine D_skip 26 rfl ?_ rfl rfl (by kernel_rfl) (by kernel_rfl)
        refine D_skip 27 rfl ?_ rfl rfl (by kernel_rfl) (by kernel_rfl)
        refine D_skip 28 rfl ?_ rfl rfl (by kernel_rfl) (by kernel_rfl)
        refine D_skip 29 rfl ?_ rfl rfl (by kernel_rfl) (by kernel_rfl)
        refine D_skip 30 rfl ?_ rfl rfl (by kernel_rfl) (by kernel_rfl)
        refine D_skip 31 rfl ?_ rfl rfl (by kernel_rfl) (by kernel_rfl)
        refine D_skip 32 rfl ?_ rfl rfl (by kernel_rfl) (by kernel_rfl)
        refine D_skip 33 rfl ?_ rfl rfl (by kernel_rfl) (by kernel_rfl)
        refine D_skip 34 rfl ?_ rfl rfl (by kernel_rfl) (by kernel_rfl)
        refine D_skip 35 rfl ?_ rfl rfl (by kernel_rfl) (by kernel_rfl)
        refine D_skip 36 rfl ?_ rfl rfl (by kernel_rfl) (by kernel_rfl)
        refine D_skip 37 rfl ?_ rfl rfl (by kernel_rfl) (by kernel_rfl)
        refine D_skip 38 rfl ?_ rfl rfl (by kernel_rfl) (by kernel_rfl)
        refine D_take 39 rfl (pev_ok rfl) ?_ rfl rfl (by kernel_rfl) (by kernel_rfl)
        refine D_done ?_ (by kernel_rfl)
        skip
        focus (refine S_true rfl rfl ?_; refine S_seq rfl ?_; refine S_region rfl rfl ?_; refine R_p rfl ?_ rfl rfl; refine R_nil ?_)
        refine hB _ _ _ _ _ rfl rfl fun w' hS => ⟨(), ?_, trivial, hS.sublist (List.nil_sublist _)⟩
        rw [hbd he.symm]
        rfl
    · skip
      obtain rfl : e = false := he.symm
      have hnx := hnx hbc
      rcases Nat.eq_zero_or_pos j with hj0 | hj0
      · subst hj0
        refine S_draw ([pt b4 42 (chc (s, true, t)), pt b 27 [.slice A L.length c]]) sub_st (by kernel_rfl) rfl (by kernel_rfl) (by kernel_rfl : _ = 40) ?_
        refine D_take 0 rfl (pev_ok rfl) ?_ rfl rfl (by kernel_rfl) (by kernel_rfl)
        refine D_take 1 rfl (T_decF rfl (by omega)) ?_ rfl rfl (by kernel_rfl) (by kernel_rfl)
        refine D_take 2 rfl (T_decF rfl (by omega)) ?_ rfl rfl (by kernel_rfl) (by kernel_rfl)
        refine D_take 3 rfl (pev_ok rfl) ?_ rfl rfl (by kernel_rfl) (by kernel_rfl)
        refine D_take 4 rfl (T_load rfl rfl rfl (by first | rfl | assumption)) ?_ rfl rfl (by kernel_rfl) (by kernel_rfl)
        refine D_one 5 rfl (E_rpathW (a := s) (r := true) rfl hpl hr) ?_ rfl rfl (by kernel_rfl)
        rintro _ _ ⟨rfl, rfl⟩
        refine Nx_same sub_st ?_
        refine D_take 6 rfl (T_not rfl) ?_ rfl rfl (by kernel_rfl) (by kernel_rfl)
        refine D_take 7 rfl (T_decF rfl (by omega)) ?_ rfl rfl (by kernel_rfl) (by kernel_rfl)
        refine D_take 8 rfl (T_decF rfl (by omega)) ?_ rfl rfl (by kernel_rfl) (by kernel_rfl)
        refine D_take 9 rfl (pev_ok rfl) ?_ rfl rfl (by kernel_rfl) (by kernel_rfl)
        refine D_take 10 rfl (T_load rfl rfl rfl (by first | rfl | assumption)) ?_ rfl rfl (by kernel_rfl) (by kernel_rfl)
        refine D_take 11 rfl (T_lens (a := t) rfl rfl rfl) ?_ rfl rfl (by kernel_rfl) (by kernel_rfl)
        refine D_take 12 rfl (T_decF rfl (by omega)) ?_ rfl rfl (by kernel_rfl) (by kernel_rfl)
        refine D_take 13 rfl (T_decF rfl (by omega)) ?_ rfl rfl (by kernel_rfl) (by kernel_rfl)
        refine D_take 14 rfl (T_decF rfl (by omega)) ?_ rfl rfl (by kernel_rfl) (by kernel_rfl)
        refine D_take 15 rfl (pev_ok rfl) ?_ rfl rfl (by kernel_rfl) (by kernel_rfl)
        refine D_take 16 rfl (T_load rfl rfl rfl (by first | rfl | assumption)) ?_ rfl rfl (by kernel_rfl) (by kernel_rfl)
        refine D_take 17 rfl (T_not rfl) ?_ rfl rfl (by kernel_rfl) (by kernel_rfl)
        refine D_take 18 rfl (T_decF rfl (by omega)) ?_ rfl rfl (by kernel_rfl) (by kernel_rfl)
        refine D_skip 19 rfl ?_ rfl rfl (by kernel_rfl) (by kernel_rfl)
        refine D_skip 20 rfl ?_ rfl rfl (by kernel_rfl) (by kernel_rfl)
        refine D_skip 21 rfl ?_ rfl rfl (by kernel_rfl) (by kernel_rfl)
        refine D_take 22 rfl (T_decF rfl (by omega)) ?_ rfl rfl (by kernel_rfl) (by kernel_rfl)
        refine D_take 23 rfl (T_decF rfl (by omega)) ?_ rfl rfl (by kernel_rfl) (by kernel_rfl)
        refine D_take 24 rfl (T_decF rfl (by omega)) ?_ rfl rfl (by kernel_rfl) (by kernel_rfl)
        refine D_take 25 rfl (pev_ok rfl) ?_ rfl rfl (by kernel_rfl) (by kernel_rfl)
        refine D_take 26 rfl (T_decF rfl (by omega)) ?_ rfl rfl (by kernel_rfl) (by kernel_rfl)
        refine D_take 27 rfl (T_decF rfl (by omega)) ?_ rfl rfl (by kernel_rfl) (by kernel_rfl)
        refine D_skip 28 rfl ?_ rfl rfl (by kernel_rfl) (by kernel_rfl)
        refine D_skip 29 rfl ?_ rfl rfl (by kernel_rfl) (by kernel_rfl)
        refine D_skip 30 rfl ?_ rfl rfl (by kernel_rfl) (by kernel_rfl)
        refine D_skip 31 rfl ?_ rfl rfl (by kernel_rfl) (by kernel_rfl)
        refine D_skip 32 rfl ?_ rfl rfl (by kernel_rfl) (by kernel_rfl)
        refine D_skip 33 rfl ?_ rfl rfl (by kernel_rfl) (by kernel_rfl)
        refine D_skip 34 rfl ?_ rfl rfl (by kernel_rfl) (by kernel_rfl)
        refine D_skip 35 rfl ?_ rfl rfl (by kernel_rfl) (by kernel_rfl)
        refine D_skip 36 rfl ?_ rfl rfl (by kernel_rfl) (by kernel_rfl)
        refine D_skip 37 rfl ?_ rfl rfl (by kernel_rfl) (by kernel_rfl)
        refine D_take 38 rfl (T_decF rfl (by omega)) ?_ rfl rfl (by kernel_rfl) (by kernel_rfl)
        refine D_take 39 rfl (T_decF rfl (by omega)) ?_ rfl rfl (by kernel_rfl) (by kernel_rfl)
        refine D_done ?_ (by kernel_rfl)
        skip
        focus (refine S_false rfl rfl ?_; refine S_skip rfl ?_; refine RS_blk ?_; refine S_region rfl rfl ?_; refine R_p rfl ?_ rfl rfl; refine R_take (T_addN rfl rfl (by unfold fits; omega)) ?_ rfl rfl; refine R_p rfl ?_ rfl rfl; refine R_nil ?_)
        exact hJ 1 _ _ ⟨by omega, by omega, hnx rfl⟩ (Sub.cons rfl (Sub.cons rfl Sub.nil)) sub_st (by omega)
      obtain ⟨i, rfl⟩ : ∃ i, j = i + 1 := ⟨j - 1, by omega⟩
      have hat2 := fun e v => cellsL_at (f := chc) chc_len L default i (by omega) e v
      rw [Nat.add_sub_cancel, map_getD L i (by omega)] at hnx hst
      obtain ⟨⟨u, u2, u3⟩, hy⟩ : ∃ y, L.getD i default = y := ⟨_, rfl⟩
      rw [hy] at hat2 hnx hst
      have hat2 : (cellsL chc L)[i * 3 + 0]? = some (sv u) := hat2 0 _ rfl
      dsimp only at hnx hst
      have hcm : scmp .leq s u = some (!Op.bytesLess u s) := congrArg some (less_or s u)
      obtain ⟨q, hq⟩ : ∃ q, Op.bytesLess u s = q := ⟨_, rfl⟩
      rw [hq] at hnx hst hcm
      refine S_draw ([pt b4 42 (chc (s, true, t)), pt b 27 [.slice A L.length c]]) sub_st (by kernel_rfl) rfl (by kernel_rfl) (by kernel_rfl : _ = 40) ?_
      refine D_take 0 rfl (pev_ok rfl) ?_ rfl rfl (by kernel_rfl) (by kernel_rfl)
      refine D_take 1 rfl (T_decF rfl (by omega)) ?_ rfl rfl (by kernel_rfl) (by kernel_rfl)
      refine D_take 2 rfl (pev_ok rfl) ?_ rfl rfl (by kernel_rfl) (by kernel_rfl)
      refine D_take 3 rfl (pev_ok rfl) ?_ rfl rfl (by kernel_rfl) (by kernel_rfl)
      refine D_take 4 rfl (T_load rfl rfl rfl (by first | rfl | assumption)) ?_ rfl rfl (by kernel_rfl) (by kernel_rfl)
      refine D_one 5 rfl (E_rpathW (a := s) (r := true) rfl hpl hr) ?_ rfl rfl (by kernel_rfl)
      rintro _ _ ⟨rfl, rfl⟩
      refine Nx_same sub_st ?_
      refine D_take 6 rfl (T_not rfl) ?_ rfl rfl (by kernel_rfl) (by kernel_rfl)
      refine D_take 7 rfl (pev_ok rfl) ?_ rfl rfl (by kernel_rfl) (by kernel_rfl)
      refine D_take 8 rfl (pev_ok rfl) ?_ rfl rfl (by kernel_rfl) (by kernel_rfl)
      refine D_take 9 rfl (pev_ok rfl) ?_ rfl rfl (by kernel_rfl) (by kernel_rfl)
      refine D_take 10 rfl (T_load rfl rfl rfl (by first | rfl | assumption)) ?_ rfl rfl (by kernel_rfl) (by kernel_rfl)
      refine D_take 11 rfl (T_lens (a := t) rfl rfl rfl) ?_ rfl rfl (by kernel_rfl) (by kernel_rfl)
      refine D_take 12 rfl (T_decF rfl (by omega)) ?_ rfl rfl (by kernel_rfl) (by kernel_rfl)
      refine D_take 13 rfl (pev_ok rfl) ?_ rfl rfl (by kernel_rfl) (by kernel_rfl)
      refine D_take 14 rfl (pev_ok rfl) ?_ rfl rfl (by kernel_rfl) (by kernel_rfl)
      refine D_take 15 rfl (pev_ok rfl) ?_ rfl rfl (by kernel_rfl) (by kernel_rfl)
      refine D_take 16 rfl (T_load rfl rfl rfl (by first | rfl | assumption)) ?_ rfl rfl (by kernel_rfl) (by kernel_rfl)
      refine D_take 17 rfl (T_not rfl) ?_ rfl rfl (by kernel_rfl) (by kernel_rfl)
      refine D_take 18 rfl (pev_ok rfl) ?_ rfl rfl (by kernel_rfl) (by kernel_rfl)
      refine D_skip 19 rfl ?_ rfl rfl (by kernel_rfl) (by kernel_rfl)
      refine D_skip 20 rfl ?_ rfl rfl (by kernel_rfl) (by kernel_rfl)
      refine D_skip 21 rfl ?_ rfl rfl (by kernel_rfl) (by kernel_rfl)
      refine D_take 22 rfl (pev_ok rfl) ?_ rfl rfl (by kernel_rfl) (by kernel_rfl)
      refine D_take 23 rfl (pev_ok rfl) ?_ rfl rfl (by kernel_rfl) (by kernel_rfl)
      refine D_take 24 rfl (pev_ok rfl) ?_ rfl rfl (by kernel_rfl) (by kernel_rfl)
      refine D_take 25 rfl (pev_ok rfl) ?_ rfl rfl (by kernel_rfl) (by kernel_rfl)
      refine D_take 26 rfl (T_decT rfl (by omega)) ?_ rfl rfl (by kernel_rfl) (by kernel_rfl)
      refine D_take 27 rfl (pev_ok rfl) ?_ rfl rfl (by kernel_rfl) (by kernel_rfl)
      refine D_take 28 rfl (pev_ok rfl) ?_ rfl rfl (by kernel_rfl) (by kernel_rfl)
      refine D_take 29 rfl (T_load rfl rfl rfl (by first | rfl | assumption)) ?_ rfl rfl (by kernel_rfl) (by kernel_rfl)
      refine D_take 30 rfl (pev_ok rfl) ?_ rfl rfl (by kernel_rfl) (by kernel_rfl)
      refine D_take 31 rfl (T_load rfl rfl rfl (by first | rfl | assumption)) ?_ rfl rfl (by kernel_rfl) (by kernel_rfl)
      refine D_take 32 rfl (pev_ok rfl) ?_ rfl rfl (by kernel_rfl) (by kernel_rfl)
      (refine D_take 33 rfl (T_subN rfl rfl (by omega) (by unfold fits; omega)) ?_ rfl rfl (by kernel_rfl) (by kernel_rfl))
      refine D_take 34 rfl (T_ixM (sz := 3) (q := i) rfl rfl rfl rfl rfl rfl hne (by omega)) ?_ rfl rfl (by kernel_rfl) (by kernel_rfl)
      refine D_take 35 rfl (T_fap rfl rfl rfl rfl rfl hne) ?_ rfl rfl (by kernel_rfl) (by kernel_rfl)
      refine D_take 36 rfl (T_ldr rfl rfl rfl (Srd.old h (fun k _ => noOwns k)) (by omega) hat2) ?_ rfl rfl (by kernel_rfl) (by kernel_rfl)
      refine D_take 37 rfl (T_scm (a := s) (b := u) rfl rfl hcm) ?_ rfl rfl (by kernel_rfl) (by kernel_rfl)
      refine D_take 38 rfl (pev_ok rfl) ?_ rfl rfl (by kernel_rfl) (by kernel_rfl)
      refine D_take 39 rfl (pev_ok rfl) ?_ rfl rfl (by kernel_rfl) (by kernel_rfl)
      refine D_done ?_ (by kernel_rfl)
      skip
      cases q
      · focus (refine S_true rfl rfl ?_; refine S_seq rfl ?_; refine S_region rfl rfl ?_; refine R_p rfl ?_ rfl rfl; refine R_nil ?_)
        refine hB _ _ _ _ _ rfl rfl fun w' hS => ⟨(), ?_, trivial, hS.sublist (List.nil_sublist _)⟩
        rw [hst (by simp)]
        rfl
      · focus (refine S_false rfl rfl ?_; refine S_skip rfl ?_; refine RS_blk ?_; refine S_region rfl rfl ?_; refine R_p rfl ?_ rfl rfl; refine R_take (T_addN rfl rfl (by unfold fits; omega)) ?_ rfl rfl; refine R_p rfl ?_ rfl rfl; refine R_nil ?_)
        exact hJ (i + 2) _ _ ⟨by omega, by omega, hnx (by simp)⟩ (Sub.cons rfl (Sub.cons rfl Sub.nil)) sub_st (by omega)
  have hjn : j = L.length := by omega
  subst hjn
  focus (refine S_seq rfl ?_; refine S_seq rfl ?_; refine S_region rfl rfl ?_; refine R_p rfl ?_ rfl rfl; refine R_p rfl ?_ rfl rfl; refine R_take (T_load rfl rfl rfl (by first | rfl | assumption)) ?_ rfl rfl; refine R_p rfl ?_ rfl rfl; refine R_take (T_decF rfl (by omega)) ?_ rfl rfl; refine R_nil ?_; refine S_false rfl rfl ?_; refine S_exit rfl rfl ?_; refine S_seq rfl ?_; refine S_region rfl rfl ?_; refine R_p rfl ?_ rfl rfl; refine R_nil ?_)
  refine hB _ _ _ _ _ rfl rfl fun w' hS => ⟨(), ?_, trivial, hS.sublist (List.nil_sublist _)⟩
  rw [goodC_end hok hj32]
  rfl
end Go.Proofs.Ytebbnbddlnpldaa
