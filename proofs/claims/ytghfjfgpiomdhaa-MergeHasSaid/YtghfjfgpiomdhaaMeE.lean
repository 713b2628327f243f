/- The laws' own functions: one, large, largeEdit, copied, right. -/
import Derived.Test.YtghfjfgpiomdhaaMeP
namespace Go.Proofs.Ytghfjfgpiomdhaa
open Go.RowKit
open Asn (pt row rb)
set_option linter.unusedVariables false
set_option linter.unusedSimpArgs false
--@use N

theorem three_built3 (A A2 A3 : Option Addr) (n c n2 c2 n3 c3 : Nat) : Try.prog.built 26 [(0, .agg #[.slice A n c]), (1, .agg #[.slice A2 n2 c2]), (2, .agg #[.slice A3 n3 c3])] = some [Value.slice A n c, Value.slice A2 n2 c2, Value.slice A3 n3 c3].toArray := by kernel_rfl
theorem three_zero : ti26.zero = .agg [Value.slice none 0 0, Value.slice none 0 0, Value.slice none 0 0].toArray := by kernel_rfl
theorem smallR_pth {L : List Rw} (h : smallR L) : ∀ x ∈ L, x.1.length ≤ 100000 := fun x hx => by have := (h.2 x hx).1; omega
theorem smallC_pth {L : List Ch} (h : smallC L) : ∀ x ∈ L, x.1.length ≤ 100000 := fun x hx => by have := (h.2 x hx).1; omega
set_option maxRecDepth 100000 in
set_option maxHeartbeats 4000000 in
theorem one_any (w : World) (p t : Str) :
    Gives Try.prog 35 [sv p, sv t] [] w (X := Nat) (fun b => .agg #[.slice (some ⟨b, 0, none⟩) 1 1]) (fun _ => True) (fun b => [pt b 70 (rwc (p, t))]) := by
  refine gives_C Try.func35 rfl Try.ntmps35 Try.results35 (by simp) (St.enter w) (fun B hB => ?_)
  focus (refine S_seq rfl ?_; refine S_region rfl rfl ?_; (refine R_eff (E_alloca rfl mp_alloc) ?_ rfl rfl; rintro _ _ ⟨b4, rfl, rfl⟩); refine R_nil ?_; refine S_seq rfl ?_; refine S_region rfl rfl ?_; refine R_p rfl ?_ rfl rfl; refine R_p rfl ?_ rfl rfl; refine R_take (T_build2 rfl rfl (rw_built2 p t)) ?_ rfl rfl; (refine R_eff (E_litS (vs := [.agg (rwc (p, t)).toArray]) (size := 2) (ds := rwc (p, t)) rfl rfl rfl rfl rfl rfl (by simp [vcells, rwc]) rfl (by omega)) ?_ rfl rfl; rintro _ _ ⟨bl, rfl, rfl⟩); refine R_take (T_build1 rfl (mp_built1 _ _ _)) ?_ rfl rfl; (refine R_eff0 (E_storew (ds := [.slice (some ⟨bl, 0, none⟩) 1 1]) (cs := [.slice none 0 0]) rfl rfl rfl rfl (sl_one _ _ _) rfl) ?_ rfl; rintro _ _ rfl); refine R_nil ?_)
  refine hB _ _ _ _ _ rfl (.cell rfl rfl rfl inferInstance rfl .nil) fun w' hS => ⟨bl, rfl, trivial, sub_st _ hS⟩
set_option maxRecDepth 100000 in
set_option maxHeartbeats 4000000 in
theorem large7_any (w : World) (A : Option Addr) (c : Nat) (Ms : List Mp) (h : Rd w All 1 A Ms.length (Ms.map mpv)) (hn : Ms.length ≤ 100) (hM : ∀ x ∈ Ms, Rd w All 2 x.1 x.2.2.length (cellsL rwc x.2.2)) :
    Gives Try.prog 10 [.slice A Ms.length c] [] w (X := Bool) (fun b => .bool b) (fun b => b = false → ∀ x ∈ Ms, smallR x.2.2) (fun _ => []) := by
  refine gives_S Try.func10 rfl Try.ntmps10 Try.results10 (by simp) (St.enter w) (fun B hB => ?_)
  have hne : 0 < Ms.length → A ≠ none := fun h0 => by obtain ⟨ad, rfl, _⟩ := h.2 (by omega); simp
  focus (refine S_seq rfl ?_; refine S_region rfl rfl ?_; refine R_p rfl ?_ rfl rfl; refine R_nil ?_; refine S_seq rfl ?_; refine S_seq rfl ?_; refine S_region rfl rfl ?_; refine R_p rfl ?_ rfl rfl; refine R_p rfl ?_ rfl rfl; refine R_p rfl ?_ rfl rfl; refine R_nil ?_; refine S_block rfl ?_)
  refine S_loop (X := Nat) (fun j => [(7, .slice A Ms.length c), (8, .int .i64 (Ms.length : Int)), (9, .int .i64 (j : Int))]) (fun _ => []) (fun j => j ≤ Ms.length ∧ ∀ x ∈ Ms.take j, smallR x.2.2) (fun j => Ms.length - j) rfl 0 ⟨Nat.zero_le _, by simp⟩ (Sub.cons rfl (Sub.cons rfl (Sub.cons rfl Sub.nil))) sub_st ?_
  rintro j ⟨hj, hok⟩ J hJ
  rcases Nat.lt_or_ge j Ms.length with hjl | hjl
  · have hne := hne (by omega)
    have htk : Ms.take (j + 1) = Ms.take j ++ [Ms.getD j default] := by rw [List.take_succ_eq_append_getElem hjl]; simp [List.getD, hjl]
    have hmem : Ms.getD j default ∈ Ms := by simp [List.getD, hjl]
    have hat : ∀ e v, [mpv (Ms.getD j default)][e]? = some v → (Ms.map mpv)[j * 1 + e]? = some v := fun e v he => by
      match e with
      | 0 => simpa [List.getD, hjl] using he
      | _ + 1 => cases he
    have hM := hM _ hmem
    obtain ⟨⟨A2, c2, L⟩, hx⟩ : ∃ x, Ms.getD j default = x := ⟨_, rfl⟩
    rw [hx] at hat htk hM
    have hat : ∀ e v, [Value.slice A2 L.length c2][e]? = some v → (Ms.map mpv)[j * 1 + e]? = some v := hat
    have hM : Rd w All 2 A2 L.length (cellsL rwc L) := hM
    have hne2 : 0 < L.length → A2 ≠ none := fun h0 => by obtain ⟨ad, rfl, _⟩ := hM.2 (by omega); simp
    by_cases h100 : 100 < L.length
    · focus (refine S_seq rfl ?_; refine S_region rfl rfl ?_; refine R_take (T_decT rfl (by omega)) ?_ rfl rfl; refine R_nil ?_; refine S_seq rfl ?_; refine S_true rfl rfl ?_; refine S_skip rfl ?_; refine S_seq rfl ?_; refine S_block rfl ?_; refine S_seq rfl ?_; refine S_region rfl rfl ?_; refine R_take (T_ixM (sz := 1) rfl rfl rfl rfl rfl rfl hne hjl) ?_ rfl rfl; refine R_take (T_lda (ds := [.slice A2 L.length c2]) rfl rfl rfl (Srd.old h (fun k _ => noOwns k)) rfl (by omega) hat) ?_ rfl rfl; (refine R_eff (E_alloca rfl mp_alloc) ?_ rfl rfl; rintro _ _ ⟨b4, rfl, rfl⟩); (refine R_eff0 (E_storew (ds := [.slice A2 L.length c2]) (cs := [.slice none 0 0]) rfl rfl rfl rfl (sl_one _ _ _) rfl) ?_ rfl; rintro _ _ rfl); refine R_nil ?_; refine S_seq rfl ?_; refine S_seq rfl ?_; refine S_region rfl rfl ?_; refine R_p rfl ?_ rfl rfl; refine R_take (T_load rfl rfl rfl (by first | rfl | assumption)) ?_ rfl rfl; refine R_p rfl ?_ rfl rfl; refine R_take (T_decT rfl (by omega)) ?_ rfl rfl; refine R_nil ?_; refine S_true rfl rfl ?_; refine S_seq rfl ?_; refine S_region rfl rfl ?_; refine R_p rfl ?_ rfl rfl; refine R_nil ?_)
      exact hB _ _ _ _ _ rfl rfl fun w' hS => ⟨true, rfl, fun h => (by cases h), hS.sublist (List.nil_sublist _)⟩
    focus (refine S_seq rfl ?_; refine S_region rfl rfl ?_; refine R_take (T_decT rfl (by omega)) ?_ rfl rfl; refine R_nil ?_; refine S_seq rfl ?_; refine S_true rfl rfl ?_; refine S_skip rfl ?_; refine S_seq rfl ?_; refine S_block rfl ?_; refine S_seq rfl ?_; refine S_region rfl rfl ?_; refine R_take (T_ixM (sz := 1) rfl rfl rfl rfl rfl rfl hne hjl) ?_ rfl rfl; refine R_take (T_lda (ds := [.slice A2 L.length c2]) rfl rfl rfl (Srd.old h (fun k _ => noOwns k)) rfl (by omega) hat) ?_ rfl rfl; (refine R_eff (E_alloca rfl mp_alloc) ?_ rfl rfl; rintro _ _ ⟨b4, rfl, rfl⟩); (refine R_eff0 (E_storew (ds := [.slice A2 L.length c2]) (cs := [.slice none 0 0]) rfl rfl rfl rfl (sl_one _ _ _) rfl) ?_ rfl; rintro _ _ rfl); refine R_nil ?_; refine S_seq rfl ?_; refine S_seq rfl ?_; refine S_region rfl rfl ?_; refine R_p rfl ?_ rfl rfl; refine R_take (T_load rfl rfl rfl (by first | rfl | assumption)) ?_ rfl rfl; refine R_p rfl ?_ rfl rfl; refine R_take (T_decF rfl (by omega)) ?_ rfl rfl; refine R_nil ?_; refine S_false rfl rfl ?_; refine S_skip rfl ?_; refine S_seq rfl ?_; refine S_region rfl rfl ?_; refine R_p rfl ?_ rfl rfl; refine R_take (T_load rfl rfl rfl (by first | rfl | assumption)) ?_ rfl rfl; refine R_p rfl ?_ rfl rfl; refine R_p rfl ?_ rfl rfl; refine R_nil ?_; refine S_block rfl ?_)
    refine S_loop (X := Nat) (fun i => [(7, .slice A Ms.length c), (8, .int .i64 (Ms.length : Int)), (9, .int .i64 (j : Int)), (18, .slice A2 L.length c2), (19, .int .i64 (L.length : Int)), (20, .int .i64 (i : Int))]) (fun _ => []) (fun i => i ≤ L.length ∧ ∀ x ∈ L.take i, x.1.length ≤ 500 ∧ x.2.length ≤ 5000) (fun i => L.length - i) rfl 0 ⟨Nat.zero_le _, by simp⟩ (Sub.cons rfl (Sub.cons rfl (Sub.cons rfl (Sub.cons rfl (Sub.cons rfl (Sub.cons rfl Sub.nil)))))) sub_st ?_
    rintro i ⟨hi, hok2⟩ J2 hJ2
    rcases Nat.lt_or_ge i L.length with hil | hil
    · have hne2 := hne2 (by omega)
      have hat2 := cellsL_at (f := rwc) rwc_len L default i hil
      have htk2 : L.take (i + 1) = L.take i ++ [L.getD i default] := by rw [List.take_succ_eq_append_getElem hil]; simp [List.getD, hil]
      obtain ⟨⟨s, t⟩, hx2⟩ : ∃ x, L.getD i default = x := ⟨_, rfl⟩
      rw [hx2] at hat2 htk2
      by_cases hs5 : 500 < s.length
      · focus (refine S_seq rfl ?_; refine S_region rfl rfl ?_; refine R_take (T_decT rfl (by omega)) ?_ rfl rfl; refine R_nil ?_; refine S_seq rfl ?_; refine S_true rfl rfl ?_; refine S_skip rfl ?_; refine S_seq rfl ?_; refine S_block rfl ?_; refine S_seq rfl ?_; refine S_region rfl rfl ?_; refine R_take (T_ixM (sz := 2) rfl rfl rfl rfl rfl rfl hne2 hil) ?_ rfl rfl; refine R_take (T_lda (ds := rwc (s, t)) rfl rfl rfl (Srd.old hM (fun k _ => noOwns k)) rfl (by omega) hat2) ?_ rfl rfl; (refine R_eff (E_alloca rfl rwc_zero) ?_ rfl rfl; rintro _ _ ⟨b6, rfl, rfl⟩); (refine R_eff0 (E_storew (cs := rwc default) (ds := rwc (s, t)) rfl rfl rfl rfl (rwc_one _) rfl) ?_ rfl; rintro _ _ rfl); refine R_nil ?_; refine S_seq rfl ?_; refine S_region rfl rfl ?_; refine R_p rfl ?_ rfl rfl; refine R_take (T_load rfl rfl rfl (by first | rfl | assumption)) ?_ rfl rfl; refine R_take (T_lens (a := s) rfl rfl rfl) ?_ rfl rfl; refine R_take (T_decT rfl (by omega)) ?_ rfl rfl; refine R_p rfl ?_ rfl rfl; refine R_skip ?_ rfl rfl; refine R_skip ?_ rfl rfl; refine R_skip ?_ rfl rfl; refine R_skip ?_ rfl rfl; refine R_p rfl ?_ rfl rfl; refine R_nil ?_; refine S_true rfl rfl ?_; refine S_seq rfl ?_; refine S_region rfl rfl ?_; refine R_p rfl ?_ rfl rfl; refine R_nil ?_)
        exact hB _ _ _ _ _ rfl rfl fun w' hS => ⟨true, rfl, fun h => (by cases h), hS.sublist (List.nil_sublist _)⟩
      by_cases ht5 : 5000 < t.length
      · focus (refine S_seq rfl ?_; refine S_region rfl rfl ?_; refine R_take (T_decT rfl (by omega)) ?_ rfl rfl; refine R_nil ?_; refine S_seq rfl ?_; refine S_true rfl rfl ?_; refine S_skip rfl ?_; refine S_seq rfl ?_; refine S_block rfl ?_; refine S_seq rfl ?_; refine S_region rfl rfl ?_; refine R_take (T_ixM (sz := 2) rfl rfl rfl rfl rfl rfl hne2 hil) ?_ rfl rfl; refine R_take (T_lda (ds := rwc (s, t)) rfl rfl rfl (Srd.old hM (fun k _ => noOwns k)) rfl (by omega) hat2) ?_ rfl rfl; (refine R_eff (E_alloca rfl rwc_zero) ?_ rfl rfl; rintro _ _ ⟨b6, rfl, rfl⟩); (refine R_eff0 (E_storew (cs := rwc default) (ds := rwc (s, t)) rfl rfl rfl rfl (rwc_one _) rfl) ?_ rfl; rintro _ _ rfl); refine R_nil ?_; refine S_seq rfl ?_; refine S_region rfl rfl ?_; refine R_p rfl ?_ rfl rfl; refine R_take (T_load rfl rfl rfl (by first | rfl | assumption)) ?_ rfl rfl; refine R_take (T_lens (a := s) rfl rfl rfl) ?_ rfl rfl; refine R_take (T_decF rfl (by omega)) ?_ rfl rfl; refine R_p rfl ?_ rfl rfl; refine R_p rfl ?_ rfl rfl; refine R_take (T_load rfl rfl rfl (by first | rfl | assumption)) ?_ rfl rfl; refine R_take (T_lens (a := t) rfl rfl rfl) ?_ rfl rfl; refine R_take (T_decT rfl (by omega)) ?_ rfl rfl; refine R_p rfl ?_ rfl rfl; refine R_nil ?_; refine S_true rfl rfl ?_; refine S_seq rfl ?_; refine S_region rfl rfl ?_; refine R_p rfl ?_ rfl rfl; refine R_nil ?_)
        exact hB _ _ _ _ _ rfl rfl fun w' hS => ⟨true, rfl, fun h => (by cases h), hS.sublist (List.nil_sublist _)⟩
      focus (refine S_seq rfl ?_; refine S_region rfl rfl ?_; refine R_take (T_decT rfl (by omega)) ?_ rfl rfl; refine R_nil ?_; refine S_seq rfl ?_; refine S_true rfl rfl ?_; refine S_skip rfl ?_; refine S_seq rfl ?_; refine S_block rfl ?_; refine S_seq rfl ?_; refine S_region rfl rfl ?_; refine R_take (T_ixM (sz := 2) rfl rfl rfl rfl rfl rfl hne2 hil) ?_ rfl rfl; refine R_take (T_lda (ds := rwc (s, t)) rfl rfl rfl (Srd.old hM (fun k _ => noOwns k)) rfl (by omega) hat2) ?_ rfl rfl; (refine R_eff (E_alloca rfl rwc_zero) ?_ rfl rfl; rintro _ _ ⟨b6, rfl, rfl⟩); (refine R_eff0 (E_storew (cs := rwc default) (ds := rwc (s, t)) rfl rfl rfl rfl (rwc_one _) rfl) ?_ rfl; rintro _ _ rfl); refine R_nil ?_; refine S_seq rfl ?_; refine S_region rfl rfl ?_; refine R_p rfl ?_ rfl rfl; refine R_take (T_load rfl rfl rfl (by first | rfl | assumption)) ?_ rfl rfl; refine R_take (T_lens (a := s) rfl rfl rfl) ?_ rfl rfl; refine R_take (T_decF rfl (by omega)) ?_ rfl rfl; refine R_p rfl ?_ rfl rfl; refine R_p rfl ?_ rfl rfl; refine R_take (T_load rfl rfl rfl (by first | rfl | assumption)) ?_ rfl rfl; refine R_take (T_lens (a := t) rfl rfl rfl) ?_ rfl rfl; refine R_take (T_decF rfl (by omega)) ?_ rfl rfl; refine R_p rfl ?_ rfl rfl; refine R_nil ?_; refine S_false rfl rfl ?_; refine S_skip rfl ?_; refine RS_blk ?_; refine S_region rfl rfl ?_; refine R_take (T_addN rfl rfl (by unfold fits; omega)) ?_ rfl rfl; refine R_p rfl ?_ rfl rfl; refine R_nil ?_)
      refine hJ2 (i + 1) _ _ ⟨by omega, fun x hx => ?_⟩ (Sub.cons rfl (Sub.cons rfl (Sub.cons rfl (Sub.cons rfl (Sub.cons rfl (Sub.cons rfl Sub.nil)))))) sub_st (by omega)
      rw [htk2] at hx
      rcases List.mem_append.1 hx with hx | hx
      · exact hok2 x hx
      · obtain rfl := List.mem_singleton.1 hx
        exact ⟨by show s.length ≤ _; omega, by show t.length ≤ _; omega⟩
    have hin : i = L.length := by omega
    subst hin
    rw [List.take_length] at hok2
    focus (refine S_seq rfl ?_; refine S_region rfl rfl ?_; refine R_take (T_decF rfl (by omega)) ?_ rfl rfl; refine R_nil ?_; refine S_seq rfl ?_; refine S_false rfl rfl ?_; refine S_exit rfl rfl ?_; refine RS_blk ?_; refine S_region rfl rfl ?_; refine R_take (T_addN rfl rfl (by unfold fits; omega)) ?_ rfl rfl; refine R_p rfl ?_ rfl rfl; refine R_nil ?_)
    refine hJ (j + 1) _ _ ⟨by omega, fun x hx => ?_⟩ (Sub.cons rfl (Sub.cons rfl (Sub.cons rfl Sub.nil))) sub_st (by omega)
    rw [htk] at hx
    rcases List.mem_append.1 hx with hx | hx
    · exact hok x hx
    · obtain rfl := List.mem_singleton.1 hx
      exact ⟨by show L.length ≤ _; omega, hok2⟩
  have hjn : j = Ms.length := by omega
  subst hjn
  rw [List.take_length] at hok
  focus (refine S_seq rfl ?_; refine S_region rfl rfl ?_; refine R_take (T_decF rfl (by omega)) ?_ rfl rfl; refine R_nil ?_; refine S_seq rfl ?_; refine S_false rfl rfl ?_; refine S_exit rfl rfl ?_; refine S_seq rfl ?_; refine S_region rfl rfl ?_; refine R_p rfl ?_ rfl rfl; refine R_nil ?_)
  exact hB _ _ _ _ _ rfl rfl fun w' hS => ⟨false, rfl, fun _ => hok, hS.sublist (List.nil_sublist _)⟩
set_option maxRecDepth 100000 in
set_option maxHeartbeats 4000000 in
theorem largeE_any (w : World) (A2 : Option Addr) (c2 : Nat) (C : List Ch) (h2 : Rd w All 3 A2 C.length (cellsL chc C)) :
    Gives Try.prog 11 [.agg #[.slice A2 C.length c2]] [] w (X := Bool) (fun b => .bool b) (fun b => b = false → smallC C) (fun _ => []) := by
  refine gives_S Try.func11 rfl Try.ntmps11 Try.results11 (by simp) (St.enter w) (fun B hB => ?_)
  have hne2 : 0 < C.length → A2 ≠ none := fun h0 => by obtain ⟨ad, rfl, _⟩ := h2.2 (by omega); simp
  by_cases h101 : 100 < C.length
  · focus (refine S_seq rfl ?_; refine S_region rfl rfl ?_; (refine R_eff (E_boxa (cs := [.slice A2 C.length c2]) rfl) ?_ rfl rfl; rintro _ _ ⟨b3, rfl, rfl⟩); refine R_p rfl ?_ rfl rfl; refine R_nil ?_; refine S_seq rfl ?_; refine S_seq rfl ?_; refine S_region rfl rfl ?_; refine R_p rfl ?_ rfl rfl; refine R_take (T_load rfl rfl rfl (by first | rfl | assumption)) ?_ rfl rfl; refine R_p rfl ?_ rfl rfl; refine R_take (T_decT rfl (by omega)) ?_ rfl rfl; refine R_nil ?_; refine S_true rfl rfl ?_; refine S_seq rfl ?_; refine S_region rfl rfl ?_; refine R_p rfl ?_ rfl rfl; refine R_nil ?_)
    exact hB _ _ _ _ _ rfl rfl fun w' hS => ⟨true, rfl, fun h => (by cases h), hS.sublist (List.nil_sublist _)⟩
  focus (refine S_seq rfl ?_; refine S_region rfl rfl ?_; (refine R_eff (E_boxa (cs := [.slice A2 C.length c2]) rfl) ?_ rfl rfl; rintro _ _ ⟨b3, rfl, rfl⟩); refine R_p rfl ?_ rfl rfl; refine R_nil ?_; refine S_seq rfl ?_; refine S_seq rfl ?_; refine S_region rfl rfl ?_; refine R_p rfl ?_ rfl rfl; refine R_take (T_load rfl rfl rfl (by first | rfl | assumption)) ?_ rfl rfl; refine R_p rfl ?_ rfl rfl; refine R_take (T_decF rfl (by omega)) ?_ rfl rfl; refine R_nil ?_; refine S_false rfl rfl ?_; refine S_skip rfl ?_; refine S_seq rfl ?_; refine S_seq rfl ?_; refine S_region rfl rfl ?_; refine R_p rfl ?_ rfl rfl; refine R_take (T_load rfl rfl rfl (by first | rfl | assumption)) ?_ rfl rfl; refine R_p rfl ?_ rfl rfl; refine R_p rfl ?_ rfl rfl; refine R_nil ?_; refine S_block rfl ?_)
  refine S_loop (X := Nat) (fun j => [(10, .slice A2 C.length c2), (11, .int .i64 (C.length : Int)), (12, .int .i64 (j : Int))]) (fun _ => []) (fun j => j ≤ C.length ∧ ∀ x ∈ C.take j, x.1.length ≤ 500 ∧ x.2.2.length ≤ 5000) (fun j => C.length - j) rfl 0 ⟨Nat.zero_le _, by simp⟩ (Sub.cons rfl (Sub.cons rfl (Sub.cons rfl Sub.nil))) sub_st ?_
  rintro j ⟨hj, hok⟩ J hJ
  rcases Nat.lt_or_ge j C.length with hjl | hjl
  · have hne := hne2 (by omega)
    have hat := cellsL_at (f := chc) chc_len C default j hjl
    have htk : C.take (j + 1) = C.take j ++ [C.getD j default] := by rw [List.take_succ_eq_append_getElem hjl]; simp [List.getD, hjl]
    obtain ⟨⟨s, is, t⟩, hx⟩ : ∃ x, C.getD j default = x := ⟨_, rfl⟩
    rw [hx] at hat htk
    by_cases hs5 : 500 < s.length
    · focus (refine S_seq rfl ?_; refine S_region rfl rfl ?_; refine R_take (T_decT rfl (by omega)) ?_ rfl rfl; refine R_nil ?_; refine S_seq rfl ?_; refine S_true rfl rfl ?_; refine S_skip rfl ?_; refine S_seq rfl ?_; refine S_block rfl ?_; refine S_seq rfl ?_; refine S_region rfl rfl ?_; refine R_take (T_ixM (sz := 3) rfl rfl rfl rfl rfl rfl hne hjl) ?_ rfl rfl; refine R_take (T_lda (ds := chc (s, is, t)) rfl rfl rfl (Srd.old h2 (fun k _ => noOwns k)) rfl (by omega) hat) ?_ rfl rfl; (refine R_eff (E_alloca rfl chc_zero) ?_ rfl rfl; rintro _ _ ⟨b6, rfl, rfl⟩); (refine R_eff0 (E_storew (cs := chc default) (ds := chc (s, is, t)) rfl rfl rfl rfl (chc_one _) rfl) ?_ rfl; rintro _ _ rfl); refine R_nil ?_; refine S_seq rfl ?_; refine S_region rfl rfl ?_; refine R_p rfl ?_ rfl rfl; refine R_take (T_load rfl rfl rfl (by first | rfl | assumption)) ?_ rfl rfl; refine R_take (T_lens (a := s) rfl rfl rfl) ?_ rfl rfl; refine R_take (T_decT rfl (by omega)) ?_ rfl rfl; refine R_p rfl ?_ rfl rfl; refine R_skip ?_ rfl rfl; refine R_skip ?_ rfl rfl; refine R_skip ?_ rfl rfl; refine R_skip ?_ rfl rfl; refine R_p rfl ?_ rfl rfl; refine R_nil ?_; refine S_true rfl rfl ?_; refine S_seq rfl ?_; refine S_region rfl rfl ?_; refine R_p rfl ?_ rfl rfl; refine R_nil ?_)
      exact hB _ _ _ _ _ rfl rfl fun w' hS => ⟨true, rfl, fun h => (by cases h), hS.sublist (List.nil_sublist _)⟩
    by_cases ht5 : 5000 < t.length
    · focus (refine S_seq rfl ?_; refine S_region rfl rfl ?_; refine R_take (T_decT rfl (by omega)) ?_ rfl rfl; refine R_nil ?_; refine S_seq rfl ?_; refine S_true rfl rfl ?_; refine S_skip rfl ?_; refine S_seq rfl ?_; refine S_block rfl ?_; refine S_seq rfl ?_; refine S_region rfl rfl ?_; refine R_take (T_ixM (sz := 3) rfl rfl rfl rfl rfl rfl hne hjl) ?_ rfl rfl; refine R_take (T_lda (ds := chc (s, is, t)) rfl rfl rfl (Srd.old h2 (fun k _ => noOwns k)) rfl (by omega) hat) ?_ rfl rfl; (refine R_eff (E_alloca rfl chc_zero) ?_ rfl rfl; rintro _ _ ⟨b6, rfl, rfl⟩); (refine R_eff0 (E_storew (cs := chc default) (ds := chc (s, is, t)) rfl rfl rfl rfl (chc_one _) rfl) ?_ rfl; rintro _ _ rfl); refine R_nil ?_; refine S_seq rfl ?_; refine S_region rfl rfl ?_; refine R_p rfl ?_ rfl rfl; refine R_take (T_load rfl rfl rfl (by first | rfl | assumption)) ?_ rfl rfl; refine R_take (T_lens (a := s) rfl rfl rfl) ?_ rfl rfl; refine R_take (T_decF rfl (by omega)) ?_ rfl rfl; refine R_p rfl ?_ rfl rfl; refine R_p rfl ?_ rfl rfl; refine R_take (T_load rfl rfl rfl (by first | rfl | assumption)) ?_ rfl rfl; refine R_take (T_lens (a := t) rfl rfl rfl) ?_ rfl rfl; refine R_take (T_decT rfl (by omega)) ?_ rfl rfl; refine R_p rfl ?_ rfl rfl; refine R_nil ?_; refine S_true rfl rfl ?_; refine S_seq rfl ?_; refine S_region rfl rfl ?_; refine R_p rfl ?_ rfl rfl; refine R_nil ?_)
      exact hB _ _ _ _ _ rfl rfl fun w' hS => ⟨true, rfl, fun h => (by cases h), hS.sublist (List.nil_sublist _)⟩
    focus (refine S_seq rfl ?_; refine S_region rfl rfl ?_; refine R_take (T_decT rfl (by omega)) ?_ rfl rfl; refine R_nil ?_; refine S_seq rfl ?_; refine S_true rfl rfl ?_; refine S_skip rfl ?_; refine S_seq rfl ?_; refine S_block rfl ?_; refine S_seq rfl ?_; refine S_region rfl rfl ?_; refine R_take (T_ixM (sz := 3) rfl rfl rfl rfl rfl rfl hne hjl) ?_ rfl rfl; refine R_take (T_lda (ds := chc (s, is, t)) rfl rfl rfl (Srd.old h2 (fun k _ => noOwns k)) rfl (by omega) hat) ?_ rfl rfl; (refine R_eff (E_alloca rfl chc_zero) ?_ rfl rfl; rintro _ _ ⟨b6, rfl, rfl⟩); (refine R_eff0 (E_storew (cs := chc default) (ds := chc (s, is, t)) rfl rfl rfl rfl (chc_one _) rfl) ?_ rfl; rintro _ _ rfl); refine R_nil ?_; refine S_seq rfl ?_; refine S_region rfl rfl ?_; refine R_p rfl ?_ rfl rfl; refine R_take (T_load rfl rfl rfl (by first | rfl | assumption)) ?_ rfl rfl; refine R_take (T_lens (a := s) rfl rfl rfl) ?_ rfl rfl; refine R_take (T_decF rfl (by omega)) ?_ rfl rfl; refine R_p rfl ?_ rfl rfl; refine R_p rfl ?_ rfl rfl; refine R_take (T_load rfl rfl rfl (by first | rfl | assumption)) ?_ rfl rfl; refine R_take (T_lens (a := t) rfl rfl rfl) ?_ rfl rfl; refine R_take (T_decF rfl (by omega)) ?_ rfl rfl; refine R_p rfl ?_ rfl rfl; refine R_nil ?_; refine S_false rfl rfl ?_; refine S_skip rfl ?_; refine RS_blk ?_; refine S_region rfl rfl ?_; refine R_take (T_addN rfl rfl (by unfold fits; omega)) ?_ rfl rfl; refine R_p rfl ?_ rfl rfl; refine R_nil ?_)
    refine hJ (j + 1) _ _ ⟨by omega, fun x hx => ?_⟩ (Sub.cons rfl (Sub.cons rfl (Sub.cons rfl Sub.nil))) sub_st (by omega)
    rw [htk] at hx
    rcases List.mem_append.1 hx with hx | hx
    · exact hok x hx
    · obtain rfl := List.mem_singleton.1 hx
      exact ⟨by show s.length ≤ _; omega, by show t.length ≤ _; omega⟩
  have hjn : j = C.length := by omega
  subst hjn
  rw [List.take_length] at hok
  focus (refine S_seq rfl ?_; refine S_region rfl rfl ?_; refine R_take (T_decF rfl (by omega)) ?_ rfl rfl; refine R_nil ?_; refine S_seq rfl ?_; refine S_false rfl rfl ?_; refine S_exit rfl rfl ?_; refine S_seq rfl ?_; refine S_region rfl rfl ?_; refine R_p rfl ?_ rfl rfl; refine R_nil ?_)
  exact hB _ _ _ _ _ rfl rfl fun w' hS => ⟨false, rfl, fun _ => ⟨by omega, hok⟩, hS.sublist (List.nil_sublist _)⟩
set_option maxRecDepth 100000 in
set_option maxHeartbeats 4000000 in
theorem own_any (w : World) (A : Option Addr) (c : Nat) (L : List Rw) (h : Rd w All 2 A L.length (cellsL rwc L)) (hn : L.length ≤ 1000) :
    Gives Try.prog 36 [.agg #[.slice A L.length c]] [] w (X := Option Addr × Nat) (fun x => .agg #[.slice x.1 L.length x.2]) (fun _ => True) (fun x => [row 70 2 x.1 L.length x.2 (cellsL rwc L)]) := by
  refine gives_C Try.func36 rfl Try.ntmps36 Try.results36 (by simp) (St.enter w) (fun B hB => ?_)
  focus (refine S_seq rfl ?_; refine S_region rfl rfl ?_; (refine R_eff (E_boxa (cs := [.slice A L.length c]) rfl) ?_ rfl rfl; rintro _ _ ⟨b1, rfl, rfl⟩); (refine R_eff (E_alloca rfl mp_alloc) ?_ rfl rfl; rintro _ _ ⟨b2, rfl, rfl⟩); refine R_nil ?_; refine S_seq rfl ?_; refine S_region rfl rfl ?_; (refine R_eff (E_litS (vs := []) (size := 2) (ds := []) rfl rfl rfl rfl rfl rfl (by simp) rfl (by omega)) ?_ rfl rfl; rintro _ _ ⟨bl, rfl, rfl⟩); refine R_p rfl ?_ rfl rfl; refine R_take (T_load rfl rfl rfl (by first | rfl | assumption)) ?_ rfl rfl; (refine R_eff (E_apple (sz := 2) (news := cellsL rwc L) rfl rfl rfl rfl rfl rfl rfl (by decide) Rem.here (Srd.old h (fun k _ => noOwns k)) (cells_ones L) (by show L.length * 32 ≤ _; omega) (by unfold maxLen; omega)) ?_ rfl rfl; rintro _ _ ⟨A', c', rfl, rfl⟩); refine R_take (T_build1 rfl (mp_built1 _ _ _)) ?_ rfl rfl; (refine R_eff0 (E_storew (ds := [.slice A' L.length c']) (cs := [.slice none 0 0]) rfl rfl rfl rfl (sl_one _ _ _) rfl) ?_ rfl; rintro _ _ rfl); refine R_nil ?_)
  refine hB _ _ _ _ _ rfl (.cell rfl rfl rfl inferInstance rfl .nil) fun w' hS => ⟨(A', c'), rfl, trivial, sub_st _ hS⟩
set_option maxRecDepth 100000 in
set_option maxHeartbeats 4000000 in
theorem copied7_any (w : World) (A1 A2 A3 : Option Addr) (c1' c2' c3' : Nat) (L1 L2 L3 : List Rw) (h1 : Rd w All 2 A1 L1.length (cellsL rwc L1)) (h2 : Rd w All 2 A2 L2.length (cellsL rwc L2)) (h3 : Rd w All 2 A3 L3.length (cellsL rwc L3)) (hn1 : L1.length ≤ 1000) (hn2 : L2.length ≤ 1000) (hn3 : L3.length ≤ 1000) :
    Gives Try.prog 12 [.agg #[.slice A1 L1.length c1', .slice A2 L2.length c2', .slice A3 L3.length c3']] [] w (X := (Option Addr × Nat) × (Option Addr × Nat) × (Option Addr × Nat)) (fun x => .agg #[.slice x.1.1 L1.length x.1.2, .slice x.2.1.1 L2.length x.2.1.2, .slice x.2.2.1 L3.length x.2.2.2]) (fun _ => True) (fun x => [row 70 2 x.2.2.1 L3.length x.2.2.2 (cellsL rwc L3), row 70 2 x.2.1.1 L2.length x.2.1.2 (cellsL rwc L2), row 70 2 x.1.1 L1.length x.1.2 (cellsL rwc L1)]) := by
  refine gives_C Try.func12 rfl Try.ntmps12 Try.results12 (by simp) (St.enter w) (fun B hB => ?_)
  focus (refine S_seq rfl ?_; refine S_region rfl rfl ?_; (refine R_eff (E_boxa (cs := [.slice A1 L1.length c1', .slice A2 L2.length c2', .slice A3 L3.length c3']) rfl) ?_ rfl rfl; rintro _ _ ⟨b1, rfl, rfl⟩); (refine R_eff (E_alloca rfl three_zero) ?_ rfl rfl; rintro _ _ ⟨b2, rfl, rfl⟩); refine R_nil ?_; refine S_seq rfl ?_; refine S_region rfl rfl ?_; refine R_p rfl ?_ rfl rfl; refine R_nil ?_; refine S_seq rfl ?_)
  refine S_draw ([pt b1 26 [.slice A1 L1.length c1', .slice A2 L2.length c2', .slice A3 L3.length c3']]) sub_st (by kernel_rfl) rfl (by kernel_rfl) (by kernel_rfl : _ = 14) ?_
  refine D_take 0 rfl (pev_ok rfl) ?_ rfl rfl (by kernel_rfl) (by kernel_rfl)
  refine D_take 1 rfl (pev_ok rfl) ?_ rfl rfl (by kernel_rfl) (by kernel_rfl)
  refine D_take 2 rfl (T_loads (ds := [.slice A1 L1.length c1']) rfl rfl rfl rfl rfl) ?_ rfl rfl (by kernel_rfl) (by kernel_rfl)
  refine D_take 4 rfl (pev_ok rfl) ?_ rfl rfl (by kernel_rfl) (by kernel_rfl)
  refine D_take 5 rfl (pev_ok rfl) ?_ rfl rfl (by kernel_rfl) (by kernel_rfl)
  refine D_take 6 rfl (T_loads (ds := [.slice A2 L2.length c2']) rfl rfl rfl rfl rfl) ?_ rfl rfl (by kernel_rfl) (by kernel_rfl)
  refine D_take 8 rfl (pev_ok rfl) ?_ rfl rfl (by kernel_rfl) (by kernel_rfl)
  refine D_take 9 rfl (pev_ok rfl) ?_ rfl rfl (by kernel_rfl) (by kernel_rfl)
  refine D_take 10 rfl (T_loads (ds := [.slice A3 L3.length c3']) rfl rfl rfl rfl rfl) ?_ rfl rfl (by kernel_rfl) (by kernel_rfl)
  refine D_one 3 rfl (E_cloA (cap := []) rfl (E_hv1 ⟨_, Try.func36, rfl, by kernel_rfl⟩ (fun w hS => own_any w A1 c1' L1 ((Srd.old h1 (fun k _ => noOwns k)).rd w hS) (by omega)) rfl rfl (fun _ => rfl))) ?_ rfl rfl (by kernel_rfl)
  rintro _ _ ⟨⟨A4, c4⟩, rfl, _, rfl⟩
  refine Nx_same sub_st ?_
  refine D_one 7 rfl (E_cloA (cap := []) rfl (E_hv1 ⟨_, Try.func36, rfl, by kernel_rfl⟩ (fun w hS => own_any w A2 c2' L2 ((Srd.old h2 (fun k _ => noOwns k)).rd w hS) (by omega)) rfl rfl (fun _ => rfl))) ?_ rfl rfl (by kernel_rfl)
  rintro _ _ ⟨⟨A5, c5⟩, rfl, _, rfl⟩
  refine Nx_same sub_st ?_
  refine D_one 11 rfl (E_cloA (cap := []) rfl (E_hv1 ⟨_, Try.func36, rfl, by kernel_rfl⟩ (fun w hS => own_any w A3 c3' L3 ((Srd.old h3 (fun k _ => noOwns k)).rd w hS) (by omega)) rfl rfl (fun _ => rfl))) ?_ rfl rfl (by kernel_rfl)
  rintro _ _ ⟨⟨A6, c6⟩, rfl, _, rfl⟩
  refine Nx_same sub_st ?_
  refine D_take 12 rfl (T_build3 rfl rfl rfl (three_built3 _ _ _ _ _ _ _ _ _)) ?_ rfl rfl (by kernel_rfl) (by kernel_rfl)
  refine D_one 13 rfl (E_storew (cs := [.slice none 0 0, .slice none 0 0, .slice none 0 0]) (ds := [.slice A4 L1.length c4, .slice A5 L2.length c5, .slice A6 L3.length c6]) rfl rfl rfl rfl (by simp [Value.oneCell']) rfl) ?_ rfl rfl (by kernel_rfl)
  rintro _ _ rfl
  refine Nx_same sub_st ?_
  refine D_done ?_ (by kernel_rfl)
  skip
  skip
  refine hB _ _ _ _ _ rfl (.cell rfl rfl rfl inferInstance rfl .nil) fun w' hS => ⟨((A4, c4), (A5, c5), (A6, c6)), rfl, trivial, sub_st _ hS⟩
set_option maxRecDepth 100000 in
set_option maxHeartbeats 4000000 in
theorem right3_any (w : World) (A1 A2 A3 : Option Addr) (c1' c2' c3' : Nat) (L1 L2 L3 : List Rw) (h1 : Rd w All 2 A1 L1.length (cellsL rwc L1)) (h2 : Rd w All 2 A2 L2.length (cellsL rwc L2)) (h3 : Rd w All 2 A3 L3.length (cellsL rwc L3)) (hn1 : L1.length ≤ 1000) (hn2 : L2.length ≤ 1000) (hn3 : L3.length ≤ 1000) (hp1 : ∀ x ∈ L1, x.1.length ≤ 100000) (hp2 : ∀ x ∈ L2, x.1.length ≤ 100000) (hp3 : ∀ x ∈ L3, x.1.length ≤ 100000) :
    Gives Try.prog 15 [.agg #[.slice A1 L1.length c1', .slice A2 L2.length c2', .slice A3 L3.length c3']] [] w (X := Unit) (fun _ => .bool (rdy L1 L2 L3)) (fun _ => True) (fun _ => []) := by
  refine gives_S Try.func15 rfl Try.ntmps15 Try.results15 (by simp) (St.enter w) (fun B hB => ?_)
  obtain ⟨r1, e1⟩ : ∃ r, chkR L1 = r := ⟨_, rfl⟩
  obtain ⟨r2, e2⟩ : ∃ r, chkR L2 = r := ⟨_, rfl⟩
  obtain ⟨r3, e3⟩ : ∃ r, chkR L3 = r := ⟨_, rfl⟩
  rw [rdy, e1, e2, e3] at hB
  cases r1 <;> cases r2 <;> cases r3
  · --
    focus (refine S_seq rfl ?_; refine S_region rfl rfl ?_; (refine R_eff (E_boxa (cs := [.slice A1 L1.length c1', .slice A2 L2.length c2', .slice A3 L3.length c3']) rfl) ?_ rfl rfl; rintro _ _ ⟨b1, rfl, rfl⟩); refine R_p rfl ?_ rfl rfl; refine R_nil ?_; refine S_seq rfl ?_; refine S_region rfl rfl ?_; refine R_p rfl ?_ rfl rfl; refine R_take (T_loads (ds := [.slice A1 L1.length c1']) rfl rfl rfl rfl rfl) ?_ rfl rfl; (refine R_eff (E_rightRW (L := L1) (r := false) (A := A1) (m := L1.length) (c := c1') rfl (Srd.old h1 (fun k _ => noOwns k)) (by omega) hp1 e1) ?_ rfl rfl; rintro _ _ ⟨rfl, rfl⟩); refine R_p rfl ?_ rfl rfl; refine R_skip ?_ rfl rfl; refine R_skip ?_ rfl rfl; refine R_skip ?_ rfl rfl; refine R_p rfl ?_ rfl rfl; refine R_p rfl ?_ rfl rfl; refine R_skip ?_ rfl rfl; refine R_skip ?_ rfl rfl; refine R_skip ?_ rfl rfl; refine R_p rfl ?_ rfl rfl; refine R_p rfl ?_ rfl rfl; refine R_nil ?_)
    exact hB _ _ _ _ _ rfl rfl fun w' hS => ⟨(), rfl, trivial, hS.sublist (List.nil_sublist _)⟩
  · --
    focus (refine S_seq rfl ?_; refine S_region rfl rfl ?_; (refine R_eff (E_boxa (cs := [.slice A1 L1.length c1', .slice A2 L2.length c2', .slice A3 L3.length c3']) rfl) ?_ rfl rfl; rintro _ _ ⟨b1, rfl, rfl⟩); refine R_p rfl ?_ rfl rfl; refine R_nil ?_; refine S_seq rfl ?_; refine S_region rfl rfl ?_; refine R_p rfl ?_ rfl rfl; refine R_take (T_loads (ds := [.slice A1 L1.length c1']) rfl rfl rfl rfl rfl) ?_ rfl rfl; (refine R_eff (E_rightRW (L := L1) (r := false) (A := A1) (m := L1.length) (c := c1') rfl (Srd.old h1 (fun k _ => noOwns k)) (by omega) hp1 e1) ?_ rfl rfl; rintro _ _ ⟨rfl, rfl⟩); refine R_p rfl ?_ rfl rfl; refine R_skip ?_ rfl rfl; refine R_skip ?_ rfl rfl; refine R_skip ?_ rfl rfl; refine R_p rfl ?_ rfl rfl; refine R_p rfl ?_ rfl rfl; refine R_skip ?_ rfl rfl; refine R_skip ?_ rfl rfl; refine R_skip ?_ rfl rfl; refine R_p rfl ?_ rfl rfl; refine R_p rfl ?_ rfl rfl; refine R_nil ?_)
    exact hB _ _ _ _ _ rfl rfl fun w' hS => ⟨(), rfl, trivial, hS.sublist (List.nil_sublist _)⟩
  · --
    focus (refine S_seq rfl ?_; refine S_region rfl rfl ?_; (refine R_eff (E_boxa (cs := [.slice A1 L1.length c1', .slice A2 L2.length c2', .slice A3 L3.length c3']) rfl) ?_ rfl rfl; rintro _ _ ⟨b1, rfl, rfl⟩); refine R_p rfl ?_ rfl rfl; refine R_nil ?_; refine S_seq rfl ?_; refine S_region rfl rfl ?_; refine R_p rfl ?_ rfl rfl; refine R_take (T_loads (ds := [.slice A1 L1.length c1']) rfl rfl rfl rfl rfl) ?_ rfl rfl; (refine R_eff (E_rightRW (L := L1) (r := false) (A := A1) (m := L1.length) (c := c1') rfl (Srd.old h1 (fun k _ => noOwns k)) (by omega) hp1 e1) ?_ rfl rfl; rintro _ _ ⟨rfl, rfl⟩); refine R_p rfl ?_ rfl rfl; refine R_skip ?_ rfl rfl; refine R_skip ?_ rfl rfl; refine R_skip ?_ rfl rfl; refine R_p rfl ?_ rfl rfl; refine R_p rfl ?_ rfl rfl; refine R_skip ?_ rfl rfl; refine R_skip ?_ rfl rfl; refine R_skip ?_ rfl rfl; refine R_p rfl ?_ rfl rfl; refine R_p rfl ?_ rfl rfl; refine R_nil ?_)
    exact hB _ _ _ _ _ rfl rfl fun w' hS => ⟨(), rfl, trivial, hS.sublist (List.nil_sublist _)⟩
  · --
    focus (refine S_seq rfl ?_; refine S_region rfl rfl ?_; (refine R_eff (E_boxa (cs := [.slice A1 L1.length c1', .slice A2 L2.length c2', .slice A3 L3.length c3']) rfl) ?_ rfl rfl; rintro _ _ ⟨b1, rfl, rfl⟩); refine R_p rfl ?_ rfl rfl; refine R_nil ?_; refine S_seq rfl ?_; refine S_region rfl rfl ?_; refine R_p rfl ?_ rfl rfl; refine R_take (T_loads (ds := [.slice A1 L1.length c1']) rfl rfl rfl rfl rfl) ?_ rfl rfl; (refine R_eff (E_rightRW (L := L1) (r := false) (A := A1) (m := L1.length) (c := c1') rfl (Srd.old h1 (fun k _ => noOwns k)) (by omega) hp1 e1) ?_ rfl rfl; rintro _ _ ⟨rfl, rfl⟩); refine R_p rfl ?_ rfl rfl; refine R_skip ?_ rfl rfl; refine R_skip ?_ rfl rfl; refine R_skip ?_ rfl rfl; refine R_p rfl ?_ rfl rfl; refine R_p rfl ?_ rfl rfl; refine R_skip ?_ rfl rfl; refine R_skip ?_ rfl rfl; refine R_skip ?_ rfl rfl; refine R_p rfl ?_ rfl rfl; refine R_p rfl ?_ rfl rfl; refine R_nil ?_)
    exact hB _ _ _ _ _ rfl rfl fun w' hS => ⟨(), rfl, trivial, hS.sublist (List.nil_sublist _)⟩
  · --
    focus (refine S_seq rfl ?_; refine S_region rfl rfl ?_; (refine R_eff (E_boxa (cs := [.slice A1 L1.length c1', .slice A2 L2.length c2', .slice A3 L3.length c3']) rfl) ?_ rfl rfl; rintro _ _ ⟨b1, rfl, rfl⟩); refine R_p rfl ?_ rfl rfl; refine R_nil ?_; refine S_seq rfl ?_; refine S_region rfl rfl ?_; refine R_p rfl ?_ rfl rfl; refine R_take (T_loads (ds := [.slice A1 L1.length c1']) rfl rfl rfl rfl rfl) ?_ rfl rfl; (refine R_eff (E_rightRW (L := L1) (r := true) (A := A1) (m := L1.length) (c := c1') rfl (Srd.old h1 (fun k _ => noOwns k)) (by omega) hp1 e1) ?_ rfl rfl; rintro _ _ ⟨rfl, rfl⟩); refine R_p rfl ?_ rfl rfl; refine R_p rfl ?_ rfl rfl; refine R_take (T_loads (ds := [.slice A2 L2.length c2']) rfl rfl rfl rfl rfl) ?_ rfl rfl; (refine R_eff (E_rightRW (L := L2) (r := false) (A := A2) (m := L2.length) (c := c2') rfl (Srd.old h2 (fun k _ => noOwns k)) (by omega) hp2 e2) ?_ rfl rfl; rintro _ _ ⟨rfl, rfl⟩); refine R_p rfl ?_ rfl rfl; refine R_p rfl ?_ rfl rfl; refine R_skip ?_ rfl rfl; refine R_skip ?_ rfl rfl; refine R_skip ?_ rfl rfl; refine R_p rfl ?_ rfl rfl; refine R_p rfl ?_ rfl rfl; refine R_nil ?_)
    exact hB _ _ _ _ _ rfl rfl fun w' hS => ⟨(), rfl, trivial, hS.sublist (List.nil_sublist _)⟩
  · --
    focus (refine S_seq rfl ?_; refine S_region rfl rfl ?_; (refine R_eff (E_boxa (cs := [.slice A1 L1.length c1', .slice A2 L2.length c2', .slice A3 L3.length c3']) rfl) ?_ rfl rfl; rintro _ _ ⟨b1, rfl, rfl⟩); refine R_p rfl ?_ rfl rfl; refine R_nil ?_; refine S_seq rfl ?_; refine S_region rfl rfl ?_; refine R_p rfl ?_ rfl rfl; refine R_take (T_loads (ds := [.slice A1 L1.length c1']) rfl rfl rfl rfl rfl) ?_ rfl rfl; (refine R_eff (E_rightRW (L := L1) (r := true) (A := A1) (m := L1.length) (c := c1') rfl (Srd.old h1 (fun k _ => noOwns k)) (by omega) hp1 e1) ?_ rfl rfl; rintro _ _ ⟨rfl, rfl⟩); refine R_p rfl ?_ rfl rfl; refine R_p rfl ?_ rfl rfl; refine R_take (T_loads (ds := [.slice A2 L2.length c2']) rfl rfl rfl rfl rfl) ?_ rfl rfl; (refine R_eff (E_rightRW (L := L2) (r := false) (A := A2) (m := L2.length) (c := c2') rfl (Srd.old h2 (fun k _ => noOwns k)) (by omega) hp2 e2) ?_ rfl rfl; rintro _ _ ⟨rfl, rfl⟩); refine R_p rfl ?_ rfl rfl; refine R_p rfl ?_ rfl rfl; refine R_skip ?_ rfl rfl; refine R_skip ?_ rfl rfl; refine R_skip ?_ rfl rfl; refine R_p rfl ?_ rfl rfl; refine R_p rfl ?_ rfl rfl; refine R_nil ?_)
    exact hB _ _ _ _ _ rfl rfl fun w' hS => ⟨(), rfl, trivial, hS.sublist (List.nil_sublist _)⟩
  · --
    focus (refine S_seq rfl ?_; refine S_region rfl rfl ?_; (refine R_eff (E_boxa (cs := [.slice A1 L1.length c1', .slice A2 L2.length c2', .slice A3 L3.length c3']) rfl) ?_ rfl rfl; rintro _ _ ⟨b1, rfl, rfl⟩); refine R_p rfl ?_ rfl rfl; refine R_nil ?_; refine S_seq rfl ?_; refine S_region rfl rfl ?_; refine R_p rfl ?_ rfl rfl; refine R_take (T_loads (ds := [.slice A1 L1.length c1']) rfl rfl rfl rfl rfl) ?_ rfl rfl; (refine R_eff (E_rightRW (L := L1) (r := true) (A := A1) (m := L1.length) (c := c1') rfl (Srd.old h1 (fun k _ => noOwns k)) (by omega) hp1 e1) ?_ rfl rfl; rintro _ _ ⟨rfl, rfl⟩); refine R_p rfl ?_ rfl rfl; refine R_p rfl ?_ rfl rfl; refine R_take (T_loads (ds := [.slice A2 L2.length c2']) rfl rfl rfl rfl rfl) ?_ rfl rfl; (refine R_eff (E_rightRW (L := L2) (r := true) (A := A2) (m := L2.length) (c := c2') rfl (Srd.old h2 (fun k _ => noOwns k)) (by omega) hp2 e2) ?_ rfl rfl; rintro _ _ ⟨rfl, rfl⟩); refine R_p rfl ?_ rfl rfl; refine R_p rfl ?_ rfl rfl; refine R_p rfl ?_ rfl rfl; refine R_take (T_loads (ds := [.slice A3 L3.length c3']) rfl rfl rfl rfl rfl) ?_ rfl rfl; (refine R_eff (E_rightRW (L := L3) (r := false) (A := A3) (m := L3.length) (c := c3') rfl (Srd.old h3 (fun k _ => noOwns k)) (by omega) hp3 e3) ?_ rfl rfl; rintro _ _ ⟨rfl, rfl⟩); refine R_p rfl ?_ rfl rfl; refine R_p rfl ?_ rfl rfl; refine R_nil ?_)
    exact hB _ _ _ _ _ rfl rfl fun w' hS => ⟨(), rfl, trivial, hS.sublist (List.nil_sublist _)⟩
  · --
    focus (refine S_seq rfl ?_; refine S_region rfl rfl ?_; (refine R_eff (E_boxa (cs := [.slice A1 L1.length c1', .slice A2 L2.length c2', .slice A3 L3.length c3']) rfl) ?_ rfl rfl; rintro _ _ ⟨b1, rfl, rfl⟩); refine R_p rfl ?_ rfl rfl; refine R_nil ?_; refine S_seq rfl ?_; refine S_region rfl rfl ?_; refine R_p rfl ?_ rfl rfl; refine R_take (T_loads (ds := [.slice A1 L1.length c1']) rfl rfl rfl rfl rfl) ?_ rfl rfl; (refine R_eff (E_rightRW (L := L1) (r := true) (A := A1) (m := L1.length) (c := c1') rfl (Srd.old h1 (fun k _ => noOwns k)) (by omega) hp1 e1) ?_ rfl rfl; rintro _ _ ⟨rfl, rfl⟩); refine R_p rfl ?_ rfl rfl; refine R_p rfl ?_ rfl rfl; refine R_take (T_loads (ds := [.slice A2 L2.length c2']) rfl rfl rfl rfl rfl) ?_ rfl rfl; (refine R_eff (E_rightRW (L := L2) (r := true) (A := A2) (m := L2.length) (c := c2') rfl (Srd.old h2 (fun k _ => noOwns k)) (by omega) hp2 e2) ?_ rfl rfl; rintro _ _ ⟨rfl, rfl⟩); refine R_p rfl ?_ rfl rfl; refine R_p rfl ?_ rfl rfl; refine R_p rfl ?_ rfl rfl; refine R_take (T_loads (ds := [.slice A3 L3.length c3']) rfl rfl rfl rfl rfl) ?_ rfl rfl; (refine R_eff (E_rightRW (L := L3) (r := true) (A := A3) (m := L3.length) (c := c3') rfl (Srd.old h3 (fun k _ => noOwns k)) (by omega) hp3 e3) ?_ rfl rfl; rintro _ _ ⟨rfl, rfl⟩); refine R_p rfl ?_ rfl rfl; refine R_p rfl ?_ rfl rfl; refine R_nil ?_)
    exact hB _ _ _ _ _ rfl rfl fun w' hS => ⟨(), rfl, trivial, hS.sublist (List.nil_sublist _)⟩
end Go.Proofs.Ytghfjfgpiomdhaa
