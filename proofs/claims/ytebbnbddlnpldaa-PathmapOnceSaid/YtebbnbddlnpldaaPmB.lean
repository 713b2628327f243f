/- An edit applied to a map: walked. -/
import Derived.Test.YtebbnbddlnpldaaPmA
namespace Go.Proofs.Ytebbnbddlnpldaa
open Go.RowKit
open Asn (pt row rb)
set_option linter.unusedVariables false
set_option linter.unusedSimpArgs false
--@use N

set_option maxRecDepth 100000 in
set_option maxHeartbeats 4000000 in
theorem apply_any (w : World) (A A2 : Option Addr) (n c n2 c2 : Nat) (L : List Rw) (C : List Ch) (h : Rd w All 2 A n (cellsL rwc L)) (h2 : Rd w All 3 A2 n2 (cellsL chc C)) (hn : n ≤ 100000) (hn2 : n2 ≤ 100000) (hp : ∀ x ∈ L, x.1.length ≤ 100000) (hp2 : ∀ x ∈ C, x.1.length ≤ 100000) :
    Gives Try.prog 11 [.agg #[.slice A n c], .agg #[.slice A2 n2 c2]] [] w (X := Option Addr × Nat) (fun x => .tuple #[.agg #[.slice x.1 (appR L C).length x.2], zi (appE L C)]) (fun _ => True) (fun x => [row 56 2 x.1 (appR L C).length x.2 (cellsL rwc (appR L C))]) := by
  refine gives_C Try.func11 rfl Try.ntmps11 Try.results11 (by simp) (St.enter w) (fun B hB => ?_)
  have hl : L.length = n := by have := h.1; rw [cellsL_len rwc_len] at this; omega
  have hl2 : C.length = n2 := by have := h2.1; rw [cellsL_len chc_len] at this; omega
  subst hl
  subst hl2
  have hne2 : 0 < C.length → A2 ≠ none := fun h0 => by obtain ⟨ad, rfl, _⟩ := h2.2 (by omega); simp
  cases hr : chkR L
  · have e1 : appE L C = 150 := by rw [appE, hr]; rfl
    have e2 : appR L C = [] := by rw [appR, hr]; rfl
    rw [e1, e2] at hB
    focus (refine S_seq rfl ?_; refine S_region rfl rfl ?_; (refine R_eff (E_boxa (cs := [.slice A L.length c]) rfl) ?_ rfl rfl; rintro _ _ ⟨b2, rfl, rfl⟩); (refine R_eff (E_boxa (cs := [.slice A2 C.length c2]) rfl) ?_ rfl rfl; rintro _ _ ⟨b3, rfl, rfl⟩); (refine R_eff (E_alloca rfl mp_alloc) ?_ rfl rfl; rintro _ _ ⟨b4, rfl, rfl⟩); refine R_p rfl ?_ rfl rfl; refine R_nil ?_; refine S_seq rfl ?_; refine S_block rfl ?_; refine S_seq rfl ?_; refine S_region rfl rfl ?_; refine R_take (T_loada (ds := [.slice A L.length c]) rfl rfl rfl rfl (fun j v h => by simpa using h)) ?_ rfl rfl; (refine R_eff (E_chkRW (L := L) (r := false) rfl (Srd.old h (fun k _ => noOwns k)) (by omega) hp hr) ?_ rfl rfl; rintro _ _ ⟨rfl, rfl⟩); refine R_p rfl ?_ rfl rfl; refine R_p rfl ?_ rfl rfl; refine R_nil ?_; refine S_true rfl rfl ?_; refine S_seq rfl ?_; refine S_region rfl rfl ?_; refine R_take (T_build0 mp_built0) ?_ rfl rfl; (refine R_eff0 (E_storew (ds := [.slice none 0 0]) (cs := [.slice none 0 0]) rfl rfl rfl rfl (sl_one _ _ _) rfl) ?_ rfl; rintro _ _ rfl); refine R_p rfl ?_ rfl rfl; refine R_nil ?_)
    refine hB _ _ _ _ _ rfl (.cell rfl rfl rfl inferInstance rfl (.tmp rfl .nil)) fun w' hS => ⟨(none, 0), rfl, trivial, (hS.sublist (List.nil_sublist _)).nilrow _ _⟩
  have hsr := chkR_srt hr
  cases hrc : chkC C
  · have e1 : appE L C = 151 := by rw [appE, hr, hrc]; rfl
    have e2 : appR L C = [] := by rw [appR, hr, hrc]; rfl
    rw [e1, e2] at hB
    focus (refine S_seq rfl ?_; refine S_region rfl rfl ?_; (refine R_eff (E_boxa (cs := [.slice A L.length c]) rfl) ?_ rfl rfl; rintro _ _ ⟨b2, rfl, rfl⟩); (refine R_eff (E_boxa (cs := [.slice A2 C.length c2]) rfl) ?_ rfl rfl; rintro _ _ ⟨b3, rfl, rfl⟩); (refine R_eff (E_alloca rfl mp_alloc) ?_ rfl rfl; rintro _ _ ⟨b4, rfl, rfl⟩); refine R_p rfl ?_ rfl rfl; refine R_nil ?_; refine S_seq rfl ?_; refine S_block rfl ?_; refine S_seq rfl ?_; refine S_region rfl rfl ?_; refine R_take (T_loada (ds := [.slice A L.length c]) rfl rfl rfl rfl (fun j v h => by simpa using h)) ?_ rfl rfl; (refine R_eff (E_chkRW (L := L) (r := true) rfl (Srd.old h (fun k _ => noOwns k)) (by omega) hp hr) ?_ rfl rfl; rintro _ _ ⟨rfl, rfl⟩); refine R_p rfl ?_ rfl rfl; refine R_p rfl ?_ rfl rfl; refine R_nil ?_; refine S_false rfl rfl ?_; refine S_seq rfl ?_; refine S_region rfl rfl ?_; refine R_take (T_loada (ds := [.slice A2 C.length c2]) rfl rfl rfl rfl (fun j v h => by simpa using h)) ?_ rfl rfl; (refine R_eff (E_chkCW (L := C) (r := false) rfl (Srd.old h2 (fun k _ => noOwns k)) (by omega) hp2 hrc) ?_ rfl rfl; rintro _ _ ⟨rfl, rfl⟩); refine R_p rfl ?_ rfl rfl; refine R_p rfl ?_ rfl rfl; refine R_nil ?_; refine S_true rfl rfl ?_; refine S_seq rfl ?_; refine S_region rfl rfl ?_; refine R_take (T_build0 mp_built0) ?_ rfl rfl; (refine R_eff0 (E_storew (ds := [.slice none 0 0]) (cs := [.slice none 0 0]) rfl rfl rfl rfl (sl_one _ _ _) rfl) ?_ rfl; rintro _ _ rfl); refine R_p rfl ?_ rfl rfl; refine R_nil ?_)
    refine hB _ _ _ _ _ rfl (.cell rfl rfl rfl inferInstance rfl (.tmp rfl .nil)) fun w' hS => ⟨(none, 0), rfl, trivial, (hS.sublist (List.nil_sublist _)).nilrow _ _⟩
  have hsc := chkC_srt hrc
  focus (refine S_seq rfl ?_; refine S_region rfl rfl ?_; (refine R_eff (E_boxa (cs := [.slice A L.length c]) rfl) ?_ rfl rfl; rintro _ _ ⟨b2, rfl, rfl⟩); (refine R_eff (E_boxa (cs := [.slice A2 C.length c2]) rfl) ?_ rfl rfl; rintro _ _ ⟨b3, rfl, rfl⟩); (refine R_eff (E_alloca rfl mp_alloc) ?_ rfl rfl; rintro _ _ ⟨b4, rfl, rfl⟩); refine R_p rfl ?_ rfl rfl; refine R_nil ?_; refine S_seq rfl ?_; refine S_block rfl ?_; refine S_seq rfl ?_; refine S_region rfl rfl ?_; refine R_take (T_loada (ds := [.slice A L.length c]) rfl rfl rfl rfl (fun j v h => by simpa using h)) ?_ rfl rfl; (refine R_eff (E_chkRW (L := L) (r := true) rfl (Srd.old h (fun k _ => noOwns k)) (by omega) hp hr) ?_ rfl rfl; rintro _ _ ⟨rfl, rfl⟩); refine R_p rfl ?_ rfl rfl; refine R_p rfl ?_ rfl rfl; refine R_nil ?_; refine S_false rfl rfl ?_; refine S_seq rfl ?_; refine S_region rfl rfl ?_; refine R_take (T_loada (ds := [.slice A2 C.length c2]) rfl rfl rfl rfl (fun j v h => by simpa using h)) ?_ rfl rfl; (refine R_eff (E_chkCW (L := C) (r := true) rfl (Srd.old h2 (fun k _ => noOwns k)) (by omega) hp2 hrc) ?_ rfl rfl; rintro _ _ ⟨rfl, rfl⟩); refine R_p rfl ?_ rfl rfl; refine R_p rfl ?_ rfl rfl; refine R_nil ?_; refine S_false rfl rfl ?_; refine S_skip rfl ?_; refine RS_blk ?_; refine S_seq rfl ?_; refine S_region rfl rfl ?_; refine R_p rfl ?_ rfl rfl; refine R_take (T_load rfl rfl rfl (by first | rfl | assumption)) ?_ rfl rfl; (refine R_eff (E_gv1 (f := 29) ⟨_, Try.func29, rfl, by kernel_rfl⟩ rfl (fun w hS => clone_any w A _ c (cellsL rwc L) ((Srd.old h (fun k _ => noOwns k)).rd w hS) (cells_ones L) (by omega)) (fun _ => rfl)) ?_ rfl rfl; rintro _ _ ⟨⟨A5, c5⟩, rfl, _, rfl⟩); refine R_p rfl ?_ rfl rfl; refine R_nil ?_; refine S_seq rfl ?_; refine S_seq rfl ?_; refine S_region rfl rfl ?_; refine R_p rfl ?_ rfl rfl; refine R_take (T_load rfl rfl rfl (by first | rfl | assumption)) ?_ rfl rfl; refine R_p rfl ?_ rfl rfl; refine R_p rfl ?_ rfl rfl; refine R_nil ?_; refine S_block rfl ?_)
  refine S_loop (X := Nat × Option Addr × Nat) (fun x => [(4, .pointer (some ⟨b4, 0, none⟩)), (6, .slice x.2.1 (appU L (C.take x.1)).length x.2.2), (25, .slice A2 C.length c2), (26, .int .i64 (C.length : Int)), (27, .int .i64 (x.1 : Int))]) (fun x => [row 56 2 x.2.1 (appU L (C.take x.1)).length x.2.2 (cellsL rwc (appU L (C.take x.1))), pt b4 24 [.slice none 0 0]]) (fun x => x.1 ≤ C.length) (fun x => C.length - x.1) rfl (0, A5, c5) (Nat.zero_le _) (Sub.cons rfl (Sub.cons rfl (Sub.cons rfl (Sub.cons rfl (Sub.cons rfl Sub.nil))))) (fun w hS => sub_st (H' := [row 56 2 A5 L.length c5 (cellsL rwc L), pt b4 24 [.slice none 0 0]]) w hS) ?_
  rintro ⟨j, A6, c6⟩ hj J hJ
  dsimp only at hj ⊢
  have hRs := appU_srt hsr.2.1 (C.take j)
  have hRl := appU_len L (C.take j)
  have hnx := appU_next L C j
  rw [List.length_take] at hRl
  have hend : j = C.length → appU L C = appU L (C.take j) := fun e => by rw [e, List.take_length]
  obtain ⟨R, hR⟩ : ∃ R, appU L (C.take j) = R := ⟨_, rfl⟩
  rw [hR] at hRs hRl hnx hend ⊢
  have hR1 : R.length ≤ 100 := by omega
  refine RS_row A6 R.length c6 fun hmc hcm hne6 hxl => ?_
  rcases Nat.lt_or_ge j C.length with hjl | hjl
  · have hne2 := hne2 (by omega)
    have hnx := hnx hjl
    have hat := cellsL_at (f := chc) chc_len C default j hjl
    obtain ⟨⟨s, is, t⟩, hx⟩ : ∃ x, C.getD j default = x := ⟨_, rfl⟩
    rw [hx] at hat hnx
    obtain ⟨r, hth⟩ : ∃ r, thereR R s = r := ⟨_, rfl⟩
    cases r
    · cases is
      · skip
        focus (refine S_seq rfl ?_; refine S_region rfl rfl ?_; refine R_take (T_decT rfl (by omega)) ?_ rfl rfl; refine R_nil ?_; refine S_seq rfl ?_; refine S_true rfl rfl ?_; refine S_skip rfl ?_; refine S_seq rfl ?_; refine S_block rfl ?_; refine S_seq rfl ?_; refine S_region rfl rfl ?_; refine R_take (T_ixM (sz := 3) rfl rfl rfl rfl rfl rfl hne2 hjl) ?_ rfl rfl; refine R_take (T_lda (ds := chc (s, false, t)) rfl rfl rfl (Srd.old h2 (fun k _ => noOwns k)) rfl (by omega) hat) ?_ rfl rfl; (refine R_eff (E_alloca rfl chc_zero) ?_ rfl rfl; rintro _ _ ⟨b8, rfl, rfl⟩); (refine R_eff0 (E_storew (cs := chc default) (ds := chc (s, false, t)) rfl rfl rfl rfl (chc_one _) rfl) ?_ rfl; rintro _ _ rfl); refine R_nil ?_; refine S_seq rfl ?_; refine S_region rfl rfl ?_; refine R_p rfl ?_ rfl rfl; refine R_p rfl ?_ rfl rfl; refine R_take (T_load rfl rfl rfl (by first | rfl | assumption)) ?_ rfl rfl; (refine R_eff (E_binW (L := R) (s := s) rfl rfl rfl (Srd.row (n := R.length) (c := c6)) (by omega) hRs hth) ?_ rfl rfl; rintro _ _ ⟨i, rfl, hi, hlo, _, hhi, rfl⟩); refine R_p rfl ?_ rfl rfl; refine R_p rfl ?_ rfl rfl; refine R_p rfl ?_ rfl rfl; refine R_p rfl ?_ rfl rfl; refine R_p rfl ?_ rfl rfl; refine R_nil ?_; refine S_block rfl ?_; refine S_seq rfl ?_; refine S_region rfl rfl ?_; refine R_p rfl ?_ rfl rfl; refine R_p rfl ?_ rfl rfl; refine R_skip ?_ rfl rfl; refine R_skip ?_ rfl rfl; refine R_p rfl ?_ rfl rfl; refine R_p rfl ?_ rfl rfl; refine R_nil ?_; refine S_false rfl rfl ?_; refine S_seq rfl ?_; refine S_region rfl rfl ?_; refine R_p rfl ?_ rfl rfl; refine R_p rfl ?_ rfl rfl; refine R_nil ?_; refine S_false rfl rfl ?_; refine S_seq rfl ?_; refine S_region rfl rfl ?_; refine R_p rfl ?_ rfl rfl; refine R_take (T_load rfl rfl rfl (by first | rfl | assumption)) ?_ rfl rfl; refine R_p rfl ?_ rfl rfl; refine R_nil ?_; refine S_false rfl rfl ?_; refine S_skip rfl ?_; refine RS_blk ?_; refine RS_blk ?_; refine S_region rfl rfl ?_; refine R_take (T_addN rfl rfl (by unfold fits; omega)) ?_ rfl rfl; refine R_p rfl ?_ rfl rfl; refine R_nil ?_)
        have hup := upd_not (t := t) hlo (hhi rfl)
        rw [hup] at hnx
        refine hJ (j + 1, A6, c6) _ _ (by show j + 1 ≤ _; omega) ?_ (fun w' hS => ?_) (by show C.length - (j + 1) < _; omega)
        · dsimp only
          rw [hnx]
          exact (Sub.cons rfl (Sub.cons rfl (Sub.cons rfl (Sub.cons rfl (Sub.cons rfl Sub.nil)))))
        · dsimp only
          rw [hnx]
          exact sub_st w' hS
      · skip
        focus (refine S_seq rfl ?_; refine S_region rfl rfl ?_; refine R_take (T_decT rfl (by omega)) ?_ rfl rfl; refine R_nil ?_; refine S_seq rfl ?_; refine S_true rfl rfl ?_; refine S_skip rfl ?_; refine S_seq rfl ?_; refine S_block rfl ?_; refine S_seq rfl ?_; refine S_region rfl rfl ?_; refine R_take (T_ixM (sz := 3) rfl rfl rfl rfl rfl rfl hne2 hjl) ?_ rfl rfl; refine R_take (T_lda (ds := chc (s, true, t)) rfl rfl rfl (Srd.old h2 (fun k _ => noOwns k)) rfl (by omega) hat) ?_ rfl rfl; (refine R_eff (E_alloca rfl chc_zero) ?_ rfl rfl; rintro _ _ ⟨b8, rfl, rfl⟩); (refine R_eff0 (E_storew (cs := chc default) (ds := chc (s, true, t)) rfl rfl rfl rfl (chc_one _) rfl) ?_ rfl; rintro _ _ rfl); refine R_nil ?_; refine S_seq rfl ?_; refine S_region rfl rfl ?_; refine R_p rfl ?_ rfl rfl; refine R_p rfl ?_ rfl rfl; refine R_take (T_load rfl rfl rfl (by first | rfl | assumption)) ?_ rfl rfl; (refine R_eff (E_binW (L := R) (s := s) rfl rfl rfl (Srd.row (n := R.length) (c := c6)) (by omega) hRs hth) ?_ rfl rfl; rintro _ _ ⟨i, rfl, hi, hlo, _, hhi, rfl⟩); refine R_p rfl ?_ rfl rfl; refine R_p rfl ?_ rfl rfl; refine R_p rfl ?_ rfl rfl; refine R_p rfl ?_ rfl rfl; refine R_p rfl ?_ rfl rfl; refine R_nil ?_; refine S_block rfl ?_; refine S_seq rfl ?_; refine S_region rfl rfl ?_; refine R_p rfl ?_ rfl rfl; refine R_p rfl ?_ rfl rfl; refine R_skip ?_ rfl rfl; refine R_skip ?_ rfl rfl; refine R_p rfl ?_ rfl rfl; refine R_p rfl ?_ rfl rfl; refine R_nil ?_; refine S_false rfl rfl ?_; refine S_seq rfl ?_; refine S_region rfl rfl ?_; refine R_p rfl ?_ rfl rfl; refine R_p rfl ?_ rfl rfl; refine R_nil ?_; refine S_false rfl rfl ?_; refine S_seq rfl ?_; refine S_region rfl rfl ?_; refine R_p rfl ?_ rfl rfl; refine R_take (T_load rfl rfl rfl (by first | rfl | assumption)) ?_ rfl rfl; refine R_p rfl ?_ rfl rfl; refine R_nil ?_; refine S_true rfl rfl ?_; refine S_region rfl rfl ?_; refine R_p rfl ?_ rfl rfl; refine R_p rfl ?_ rfl rfl; refine R_p rfl ?_ rfl rfl; refine R_take (T_load rfl rfl rfl (by first | rfl | assumption)) ?_ rfl rfl; refine R_p rfl ?_ rfl rfl; refine R_take (T_load rfl rfl rfl (by first | rfl | assumption)) ?_ rfl rfl; refine R_take (T_build2 rfl rfl (rw_built2 _ _)) ?_ rfl rfl; (refine R_eff (E_litS (vs := [.agg (rwc (s, t)).toArray]) (size := 2) (ds := rwc (s, t)) rfl rfl rfl rfl rfl rfl (by simp [vcells, rwc]) rfl (by omega)) ?_ rfl rfl; rintro _ _ ⟨vb, rfl, rfl⟩); (refine R_eff (E_gt2 (A1 := row 56 2 A6 R.length c6 (cellsL rwc R)) (A2 := pt vb 56 (rwc (s, t))) (f := 34) ⟨_, Try.func34, rfl, by kernel_rfl⟩ rfl (fun w hS hS2 => insert_any w A6 R.length c6 vb i (cellsL rwc R) (rwc (s, t)) hi (by omega) (cells_ones R) (rwc_one _) rfl hS2) (fun _ => rfl)) ?_ rfl rfl; rintro _ _ ⟨⟨A7, c7⟩, rfl, _, rfl⟩); refine R_p rfl ?_ rfl rfl; refine R_nil ?_; refine RS_blk ?_; refine RS_blk ?_; refine S_region rfl rfl ?_; refine R_take (T_addN rfl rfl (by unfold fits; omega)) ?_ rfl rfl; refine R_p rfl ?_ rfl rfl; refine R_nil ?_)
        have hup := upd_ins (t := t) hlo (hhi rfl)
        rw [hup] at hnx
        have hln : (R.take i ++ (s, t) :: R.drop i).length = R.length + 1 := by simp; omega
        refine hJ (j + 1, A7, c7) _ _ (by show j + 1 ≤ _; omega) ?_ (fun w' hS => ?_) (by show C.length - (j + 1) < _; omega)
        · dsimp only
          rw [hnx, hln]
          exact (Sub.cons rfl (Sub.cons rfl (Sub.cons rfl (Sub.cons rfl (Sub.cons rfl Sub.nil)))))
        · dsimp only
          rw [hnx, hln, ← cells_ins]
          exact sub_st w' hS
    · cases is
      · skip
        focus (refine S_seq rfl ?_; refine S_region rfl rfl ?_; refine R_take (T_decT rfl (by omega)) ?_ rfl rfl; refine R_nil ?_; refine S_seq rfl ?_; refine S_true rfl rfl ?_; refine S_skip rfl ?_; refine S_seq rfl ?_; refine S_block rfl ?_; refine S_seq rfl ?_; refine S_region rfl rfl ?_; refine R_take (T_ixM (sz := 3) rfl rfl rfl rfl rfl rfl hne2 hjl) ?_ rfl rfl; refine R_take (T_lda (ds := chc (s, false, t)) rfl rfl rfl (Srd.old h2 (fun k _ => noOwns k)) rfl (by omega) hat) ?_ rfl rfl; (refine R_eff (E_alloca rfl chc_zero) ?_ rfl rfl; rintro _ _ ⟨b8, rfl, rfl⟩); (refine R_eff0 (E_storew (cs := chc default) (ds := chc (s, false, t)) rfl rfl rfl rfl (chc_one _) rfl) ?_ rfl; rintro _ _ rfl); refine R_nil ?_; refine S_seq rfl ?_; refine S_region rfl rfl ?_; refine R_p rfl ?_ rfl rfl; refine R_p rfl ?_ rfl rfl; refine R_take (T_load rfl rfl rfl (by first | rfl | assumption)) ?_ rfl rfl; (refine R_eff (E_binW (L := R) (s := s) rfl rfl rfl (Srd.row (n := R.length) (c := c6)) (by omega) hRs hth) ?_ rfl rfl; rintro _ _ ⟨i, rfl, hi, hlo, hik, _, rfl⟩; obtain ⟨hil, hik⟩ := hik rfl); refine R_p rfl ?_ rfl rfl; refine R_p rfl ?_ rfl rfl; refine R_p rfl ?_ rfl rfl; refine R_p rfl ?_ rfl rfl; refine R_p rfl ?_ rfl rfl; refine R_nil ?_; refine S_block rfl ?_; refine S_seq rfl ?_; refine S_region rfl rfl ?_; refine R_p rfl ?_ rfl rfl; refine R_p rfl ?_ rfl rfl; refine R_p rfl ?_ rfl rfl; refine R_take (T_load rfl rfl rfl (by first | rfl | assumption)) ?_ rfl rfl; refine R_p rfl ?_ rfl rfl; refine R_p rfl ?_ rfl rfl; refine R_nil ?_; refine S_false rfl rfl ?_; refine S_seq rfl ?_; refine S_region rfl rfl ?_; refine R_p rfl ?_ rfl rfl; refine R_p rfl ?_ rfl rfl; refine R_nil ?_; refine S_true rfl rfl ?_; refine S_region rfl rfl ?_; refine R_p rfl ?_ rfl rfl; refine R_p rfl ?_ rfl rfl; refine R_p rfl ?_ rfl rfl; refine R_take (T_addN rfl rfl (by unfold fits; omega)) ?_ rfl rfl; (refine R_eff (E_gt1 (A1 := row 56 2 A6 R.length c6 (cellsL rwc R)) (f := 33) ⟨_, Try.func33, rfl, by kernel_rfl⟩ rfl (fun w hS hS2 => delete_any w A6 R.length c6 i (i + 1) (cellsL rwc R) (by omega) (by omega) (by omega) (cells_ones R) hS2) (fun _ => rfl)) ?_ rfl rfl; rintro _ _ ⟨⟨A7, c7⟩, rfl, _, rfl⟩); refine R_p rfl ?_ rfl rfl; refine R_nil ?_; refine RS_blk ?_; refine RS_blk ?_; refine S_region rfl rfl ?_; refine R_take (T_addN rfl rfl (by unfold fits; omega)) ?_ rfl rfl; refine R_p rfl ?_ rfl rfl; refine R_nil ?_)
        have hup := upd_del (t := t) hRs hil hlo hik
        rw [hup] at hnx
        have hln : (R.take i ++ R.drop (i + 1)).length = i + (R.length - (i + 1)) := by simp; omega
        refine hJ (j + 1, A7, c7) _ _ (by show j + 1 ≤ _; omega) ?_ (fun w' hS => ?_) (by show C.length - (j + 1) < _; omega)
        · dsimp only
          rw [hnx, hln]
          exact (Sub.cons rfl (Sub.cons rfl (Sub.cons rfl (Sub.cons rfl (Sub.cons rfl Sub.nil)))))
        · dsimp only
          rw [hnx, hln, ← cells_del]
          exact sub_st w' hS
      · skip
        focus (refine S_seq rfl ?_; refine S_region rfl rfl ?_; refine R_take (T_decT rfl (by omega)) ?_ rfl rfl; refine R_nil ?_; refine S_seq rfl ?_; refine S_true rfl rfl ?_; refine S_skip rfl ?_; refine S_seq rfl ?_; refine S_block rfl ?_; refine S_seq rfl ?_; refine S_region rfl rfl ?_; refine R_take (T_ixM (sz := 3) rfl rfl rfl rfl rfl rfl hne2 hjl) ?_ rfl rfl; refine R_take (T_lda (ds := chc (s, true, t)) rfl rfl rfl (Srd.old h2 (fun k _ => noOwns k)) rfl (by omega) hat) ?_ rfl rfl; (refine R_eff (E_alloca rfl chc_zero) ?_ rfl rfl; rintro _ _ ⟨b8, rfl, rfl⟩); (refine R_eff0 (E_storew (cs := chc default) (ds := chc (s, true, t)) rfl rfl rfl rfl (chc_one _) rfl) ?_ rfl; rintro _ _ rfl); refine R_nil ?_; refine S_seq rfl ?_; refine S_region rfl rfl ?_; refine R_p rfl ?_ rfl rfl; refine R_p rfl ?_ rfl rfl; refine R_take (T_load rfl rfl rfl (by first | rfl | assumption)) ?_ rfl rfl; (refine R_eff (E_binW (L := R) (s := s) rfl rfl rfl (Srd.row (n := R.length) (c := c6)) (by omega) hRs hth) ?_ rfl rfl; rintro _ _ ⟨i, rfl, hi, hlo, hik, _, rfl⟩; obtain ⟨hil, hik⟩ := hik rfl); refine R_p rfl ?_ rfl rfl; refine R_p rfl ?_ rfl rfl; refine R_p rfl ?_ rfl rfl; refine R_p rfl ?_ rfl rfl; refine R_p rfl ?_ rfl rfl; refine R_nil ?_; refine S_block rfl ?_; refine S_seq rfl ?_; refine S_region rfl rfl ?_; refine R_p rfl ?_ rfl rfl; refine R_p rfl ?_ rfl rfl; refine R_p rfl ?_ rfl rfl; refine R_take (T_load rfl rfl rfl (by first | rfl | assumption)) ?_ rfl rfl; refine R_p rfl ?_ rfl rfl; refine R_p rfl ?_ rfl rfl; refine R_nil ?_; refine S_true rfl rfl ?_; refine S_region rfl rfl ?_; refine R_p rfl ?_ rfl rfl; refine R_p rfl ?_ rfl rfl; refine R_p rfl ?_ rfl rfl; refine R_take (T_load rfl rfl rfl (by first | rfl | assumption)) ?_ rfl rfl; refine R_take (T_ixM (sz := 2) (q := i) rfl rfl rfl rfl rfl rfl (hne6 (by omega)) hil) ?_ rfl rfl; refine R_take (T_fap rfl rfl rfl rfl rfl (hne6 (by omega))) ?_ rfl rfl; (refine R_eff0 (E_storeRS (sz := 2) (m := R.length) (c := c6) (A := A6) (xs := cellsL rwc R) (v := sv t) rfl rfl rfl rfl rfl (by rw [cellsL_len rwc_len]; omega)) ?_ rfl; rintro _ _ rfl); refine R_nil ?_; refine RS_blk ?_; refine RS_blk ?_; refine S_region rfl rfl ?_; refine R_take (T_addN rfl rfl (by unfold fits; omega)) ?_ rfl rfl; refine R_p rfl ?_ rfl rfl; refine R_nil ?_)
        have hup := upd_set (t := t) hRs hil hlo hik
        rw [hup] at hnx
        refine hJ (j + 1, A6, c6) _ _ (by show j + 1 ≤ _; omega) ?_ (fun w' hS => ?_) (by show C.length - (j + 1) < _; omega)
        · dsimp only
          rw [hnx, List.length_set]
          exact (Sub.cons rfl (Sub.cons rfl (Sub.cons rfl (Sub.cons rfl (Sub.cons rfl Sub.nil)))))
        · dsimp only
          rw [hnx, List.length_set, ← cells_set1 R i s t hil hik]
          exact sub_st w' hS
  have hend := hend (by omega)
  rcases Nat.lt_or_ge 32 R.length with hfl | hfl
  · have e1 : appE L C = 6 := by rw [appE, hr, hrc, hend, if_pos rfl, if_pos rfl, if_neg (by omega)]
    have e2 : appR L C = [] := by rw [appR, hr, hrc, hend, if_pos rfl, if_pos rfl, if_neg (by omega)]
    rw [e1, e2] at hB
    focus (refine S_seq rfl ?_; refine S_region rfl rfl ?_; refine R_take (T_decF rfl (by omega)) ?_ rfl rfl; refine R_nil ?_; refine S_seq rfl ?_; refine S_false rfl rfl ?_; refine S_exit rfl rfl ?_; refine S_seq rfl ?_; refine S_seq rfl ?_; refine S_region rfl rfl ?_; refine R_p rfl ?_ rfl rfl; refine R_p rfl ?_ rfl rfl; refine R_take (T_decT rfl (by omega)) ?_ rfl rfl; refine R_nil ?_; refine S_true rfl rfl ?_; refine S_seq rfl ?_; refine S_region rfl rfl ?_; refine R_take (T_build0 mp_built0) ?_ rfl rfl; (refine R_eff0 (E_storew (ds := [.slice none 0 0]) (cs := [.slice none 0 0]) rfl rfl rfl rfl (sl_one _ _ _) rfl) ?_ rfl; rintro _ _ rfl); refine R_p rfl ?_ rfl rfl; refine R_nil ?_)
    refine hB _ _ _ _ _ rfl (.cell rfl rfl rfl inferInstance rfl (.tmp rfl .nil)) fun w' hS => ⟨(none, 0), rfl, trivial, (hS.sublist (List.nil_sublist _)).nilrow _ _⟩
  · have e1 : appE L C = 0 := by rw [appE, hr, hrc, hend, if_pos rfl, if_pos rfl, if_pos (by omega)]
    have e2 : appR L C = R := by rw [appR, hr, hrc, hend, if_pos rfl, if_pos rfl, if_pos (by omega)]
    rw [e1, e2] at hB
    focus (refine S_seq rfl ?_; refine S_region rfl rfl ?_; refine R_take (T_decF rfl (by omega)) ?_ rfl rfl; refine R_nil ?_; refine S_seq rfl ?_; refine S_false rfl rfl ?_; refine S_exit rfl rfl ?_; refine S_seq rfl ?_; refine S_seq rfl ?_; refine S_region rfl rfl ?_; refine R_p rfl ?_ rfl rfl; refine R_p rfl ?_ rfl rfl; refine R_take (T_decF rfl (by omega)) ?_ rfl rfl; refine R_nil ?_; refine S_false rfl rfl ?_; refine S_skip rfl ?_; refine S_seq rfl ?_; refine S_region rfl rfl ?_; refine R_p rfl ?_ rfl rfl; refine R_take (T_build1 rfl (mp_built1 _ _ _)) ?_ rfl rfl; (refine R_eff0 (E_storew (ds := [.slice A6 R.length c6]) (cs := [.slice none 0 0]) rfl rfl rfl rfl (sl_one _ _ _) rfl) ?_ rfl; rintro _ _ rfl); refine R_p rfl ?_ rfl rfl; refine R_nil ?_)
    refine hB _ _ _ _ _ rfl (.cell rfl rfl rfl inferInstance rfl (.tmp rfl .nil)) fun w' hS => ⟨(A6, c6), rfl, trivial, sub_st _ hS⟩
end Go.Proofs.Ytebbnbddlnpldaa
