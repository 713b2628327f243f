/- Nets: the document's Send; the statement NetSends. -/
import Derived.Test.YtclmaoagdkhboaaNtE
namespace Go.Proofs.Ytclmaoagdkhboaa
open Go.RowKit Go.ChangeShapes Go.WideShapes Go.ChangeAt
open Asn (pt row rb)
set_option linter.unusedVariables false
set_option linter.unusedSimpArgs false
--@use N

set_option maxRecDepth 100000 in
set_option maxHeartbeats 4000000 in
theorem sendD_any (w : World) (A : Option Addr) (c n : Nat) (P : List Pk) (W : List Pn) (hk : P.length = n) (hW : P.map pkv = W) (h : Rd w All 3 A n (cellsL pkc P)) (A2 : Option Addr) (c2' n2 : Nat) (C : List Ct) (hk2 : C.length = n2) (h2 : Rd w All 2 A2 n2 (cellsL ctc C)) (hn : n ≤ 1000) (hn2 : n2 ≤ 1000) (hcut : cutsB C C.length = true) (fr : Int) (SA : Option Addr) (sc k : Nat) (S : List Sd) (hSk : S.length = k) (hSr : Rd w All 2 SA k (cellsL sdc S)) (hk1 : k ≤ 400) :
    Gives Try.prog 23 [.agg (ntc A n c A2 n2 c2').toArray, .int .i64 fr, .slice SA k sc] [] w (X := (Option Addr × Nat) × {R : List Pk // R.map pkv = sendW C fr W (S.map sdv) ∧ ∀ m ∈ R, pkd m ∈ P.map pkd ++ S.map sdd}) (fun x => .agg (ntc x.1.1 (sendW C fr W (S.map sdv)).length x.1.2 A2 n2 c2').toArray) (fun _ => True) (fun x => [row 30 3 x.1.1 (sendW C fr W (S.map sdv)).length x.1.2 (cellsL pkc x.2.1)]) := by
  refine gives_C Try.func23 rfl Try.ntmps23 Try.results23 (by simp) (St.enter w) (fun B hB => ?_)
  have hne : 0 < n → A ≠ none := fun h0 => by obtain ⟨ad, rfl, _⟩ := h.2 (by omega); simp
  have hneS : 0 < k → SA ≠ none := fun h0 => by obtain ⟨ad, rfl, _⟩ := hSr.2 (by omega); simp
  focus (refine S_seq rfl ?_; refine S_region rfl rfl ?_; (refine R_eff (E_boxa (cs := ntc A n c A2 n2 c2') rfl) ?_ rfl rfl; rintro _ _ ⟨b3, rfl, rfl⟩); (refine R_eff (E_alloca rfl nt_zero) ?_ rfl rfl; rintro _ _ ⟨b6, rfl, rfl⟩); refine R_nil ?_; refine S_seq rfl ?_; refine S_region rfl rfl ?_; refine R_p rfl ?_ rfl rfl; refine R_nil ?_; refine S_seq rfl ?_; refine S_seq rfl ?_; refine S_region rfl rfl ?_; refine R_p rfl ?_ rfl rfl; refine R_nil ?_; refine S_block rfl ?_)
  refine S_loop (X := Nat × (Option Addr × Nat)) (fun x => [(1, .int .i64 fr), (2, .slice SA k sc), (3, .pointer (some ⟨b3, 0, none⟩)), (6, .pointer (some ⟨b6, 0, none⟩)), (7, .slice x.2.1 x.1 x.2.2), (8, .int .i64 (x.1 : Int))]) (fun x => [pt b3 25 (ntc A n c A2 n2 c2'), pt b6 25 (ntc none 0 0 none 0 0), row 30 3 x.2.1 x.1 x.2.2 (cellsL pkc (P.take x.1))]) (fun x => x.1 ≤ n) (fun x => n - x.1) rfl (0, (none, 0)) (Nat.zero_le _) (Sub.cons rfl (Sub.cons rfl (Sub.cons rfl (Sub.cons rfl (Sub.cons rfl (Sub.cons rfl Sub.nil)))))) (fun w' hS => ?_) ?_
  · exact sub_st (H' := [pt b3 25 (ntc A n c A2 n2 c2'), pt b6 25 (ntc none 0 0 none 0 0), row 30 3 none 0 0 []]) w' (hS.nilrow 30 3)
  rintro ⟨j, A7, c7⟩ hj J hJ
  dsimp only at hj ⊢
  rcases Nat.lt_or_ge j n with hjl | hjl
  · have hne := hne (by omega)
    have hat := cellsL_at (f := pkc) pkc_len P default j (by omega)
    have htk : P.take (j + 1) = P.take j ++ [P.getD j default] := by
      rw [List.take_succ_eq_append_getElem (by omega)]
      simp [List.getD, show j < P.length by omega]
    generalize P.getD j default = m at hat htk
    focus (refine S_seq rfl ?_; refine S_seq rfl ?_; refine S_region rfl rfl ?_; refine R_p rfl ?_ rfl rfl; refine R_p rfl ?_ rfl rfl; refine R_take (T_load rfl rfl rfl rfl) ?_ rfl rfl; refine R_p rfl ?_ rfl rfl; refine R_take (T_decT rfl (by omega)) ?_ rfl rfl; refine R_nil ?_; refine S_true rfl rfl ?_; refine S_skip rfl ?_; refine S_seq rfl ?_; refine S_block rfl ?_; refine S_region rfl rfl ?_; refine R_p rfl ?_ rfl rfl; refine R_p rfl ?_ rfl rfl; refine R_take (T_load rfl rfl rfl rfl) ?_ rfl rfl; refine R_p rfl ?_ rfl rfl; refine R_take (T_ixM (sz := 3) (q := j) rfl rfl rfl rfl rfl rfl hne hjl) ?_ rfl rfl; refine R_take (T_lda (ds := pkc m) rfl rfl rfl (Srd.old h (fun k _ => noOwns k)) rfl (by omega) hat) ?_ rfl rfl; (refine R_eff (E_litS (vs := [.agg (pkc m).toArray]) (size := 3) (ds := pkc m) rfl rfl rfl rfl rfl rfl (by simp [vcells, pkc_len]) (by simp [vcells]) (by omega)) ?_ rfl rfl; rintro _ _ ⟨vb, rfl, rfl⟩); (refine R_eff (E_appS (sz := 3) (m := j) (c := c7) (A := A7) rfl rfl rfl rfl rfl rfl rfl (by decide) (Srd.pt (n := 1) (g := vb) (ds := pkc m) rfl (fun j u hj => by rw [Nat.zero_add]; exact hj)) (pkc_one _) (by show (j + 1) * 40 ≤ _; omega) (by unfold maxLen; omega)) ?_ rfl rfl; rintro _ _ ⟨A8, c8, rfl, rfl⟩); refine R_p rfl ?_ rfl rfl; refine R_nil ?_; refine RS_blk ?_; refine S_region rfl rfl ?_; refine R_p rfl ?_ rfl rfl; refine R_take (T_addN rfl rfl (by unfold fits; omega)) ?_ rfl rfl; refine R_p rfl ?_ rfl rfl; refine R_nil ?_)
    refine hJ (j + 1, (A8, c8)) _ _ (by show j + 1 ≤ _; omega) (Sub.cons rfl (Sub.cons rfl (Sub.cons rfl (Sub.cons rfl (Sub.cons rfl (Sub.cons rfl Sub.nil)))))) (fun w' hS => ?_) (by show n - (j + 1) < _; omega)
    dsimp only
    rw [htk, cellsL_app, cellsL_one]
    exact sub_st (H' := [pt b3 25 (ntc A n c A2 n2 c2'), pt b6 25 (ntc none 0 0 none 0 0), row 30 3 A8 (j + 1) c8 (cellsL pkc (P.take j) ++ pkc m)]) w' hS
  have hjn : n = j := by omega
  subst hjn
  rw [← hk, List.take_length]
  focus (refine S_seq rfl ?_; refine S_seq rfl ?_; refine S_region rfl rfl ?_; refine R_p rfl ?_ rfl rfl; refine R_p rfl ?_ rfl rfl; refine R_take (T_load rfl rfl rfl rfl) ?_ rfl rfl; refine R_p rfl ?_ rfl rfl; refine R_take (T_decF rfl (by omega)) ?_ rfl rfl; refine R_nil ?_; refine S_false rfl rfl ?_; refine S_exit rfl rfl ?_; refine S_seq rfl ?_; refine S_seq rfl ?_; refine S_region rfl rfl ?_; refine R_p rfl ?_ rfl rfl; refine R_nil ?_; refine S_block rfl ?_)
  refine S_loop (X := Nat × Nat × (Option Addr × Nat) × List Pk) (fun x => [(1, .int .i64 fr), (2, .slice SA k sc), (3, .pointer (some ⟨b3, 0, none⟩)), (6, .pointer (some ⟨b6, 0, none⟩)), (7, .slice x.2.2.1.1 x.2.1 x.2.2.1.2), (9, .int .i64 (x.1 : Int))]) (fun x => [pt b3 25 (ntc A P.length c A2 n2 c2'), pt b6 25 (ntc none 0 0 none 0 0), row 30 3 x.2.2.1.1 x.2.1 x.2.2.1.2 (cellsL pkc x.2.2.2)]) (fun x => x.1 ≤ k ∧ x.2.2.2.length = x.2.1 ∧ x.2.1 ≤ n + x.1 ∧ x.2.2.2.map pkv = sendW C fr W ((S.take x.1).map sdv) ∧ ∀ m ∈ x.2.2.2, pkd m ∈ P.map pkd ++ S.map sdd) (fun x => k - x.1) rfl (0, P.length, (A7, c7), P) ⟨Nat.zero_le _, rfl, by show P.length ≤ n + 0; omega, hW, fun m hm => List.mem_append_left _ (List.mem_map.2 ⟨m, hm, rfl⟩)⟩ (Sub.cons rfl (Sub.cons rfl (Sub.cons rfl (Sub.cons rfl (Sub.cons rfl (Sub.cons rfl Sub.nil)))))) sub_st ?_
  rw [hk]
  clear hJ J
  rintro ⟨j, K, ⟨A7, c7⟩, R⟩ ⟨hj, hRK, hKn, hR, hmm⟩ J2 hJ2
  dsimp only at hj hRK hKn hR hmm ⊢
  rcases Nat.lt_or_ge j k with hjl | hjl
  · have hneS := hneS (by omega)
    have hat := cellsL_at (f := sdc) sdc_len S default j (by omega)
    have hnx := sendW_next C fr W S j (by omega)
    have hmem : S.getD j default ∈ S := by simp [List.getD, show j < S.length by omega]
    generalize S.getD j default = s at hat hnx hmem
    obtain ⟨to, D, cd, bs⟩ := s
    have hat0 : (cellsL sdc S)[j * 2 + 0]? = some (.int .i64 to) := hat 0 _ rfl
    have hat1 : (cellsL sdc S)[j * 2 + 1]? = some (.slice D bs.length cd) := hat 1 _ rfl
    have hnx : sendW C fr W ((S.take (j + 1)).map sdv) = sayW C fr (sendW C fr W ((S.take j).map sdv)) (to, bs) := hnx
    obtain ⟨q1, hpk⟩ : ∃ q, pkB (fr, to, bs) = q := ⟨_, rfl⟩
    obtain ⟨q2, hpp⟩ : ∃ q, partB C fr to = q := ⟨_, rfl⟩
    have hWK : (sendW C fr W ((S.take j).map sdv)).length = K := by rw [← hR, List.length_map, hRK]
    have hsay : sayW C fr (sendW C fr W ((S.take j).map sdv)) (to, bs) = if (q1 && !q2 && decide (K < 80)) = true then sendW C fr W ((S.take j).map sdv) ++ [(fr, to, bs)] else sendW C fr W ((S.take j).map sdv) := by
      unfold sayW
      rw [hpk, part_eq hcut, hpp, hWK]
    focus (refine S_seq rfl ?_; refine S_seq rfl ?_; refine S_region rfl rfl ?_; refine R_p rfl ?_ rfl rfl; refine R_p rfl ?_ rfl rfl; refine R_p rfl ?_ rfl rfl; refine R_take (T_decT rfl (by omega)) ?_ rfl rfl; refine R_nil ?_; refine S_true rfl rfl ?_; refine S_skip rfl ?_; refine S_seq rfl ?_; refine S_block rfl ?_; refine S_seq rfl ?_)
    refine S_draw ([]) sub_st (by kernel_rfl) rfl (by kernel_rfl) (by kernel_rfl : _ = 14) ?_
    refine D_take 0 rfl (pev_ok rfl) ?_ rfl rfl (by kernel_rfl) (by kernel_rfl)
    refine D_take 1 rfl (pev_ok rfl) ?_ rfl rfl (by kernel_rfl) (by kernel_rfl)
    refine D_take 2 rfl (pev_ok rfl) ?_ rfl rfl (by kernel_rfl) (by kernel_rfl)
    refine D_take 3 rfl (T_ixM (sz := 2) (q := j) rfl rfl rfl rfl rfl rfl hneS hjl) ?_ rfl rfl (by kernel_rfl) (by kernel_rfl)
    refine D_take 4 rfl (T_fap rfl rfl rfl rfl rfl hneS) ?_ rfl rfl (by kernel_rfl) (by kernel_rfl)
    refine D_take 5 rfl (T_ldr (v := .int .i64 to) rfl rfl rfl (Srd.old hSr (fun k _ => noOwns k)) (by omega) hat0) ?_ rfl rfl (by kernel_rfl) (by kernel_rfl)
    refine D_take 6 rfl (pev_ok rfl) ?_ rfl rfl (by kernel_rfl) (by kernel_rfl)
    refine D_take 7 rfl (pev_ok rfl) ?_ rfl rfl (by kernel_rfl) (by kernel_rfl)
    refine D_take 8 rfl (T_ixM (sz := 2) (q := j) rfl rfl rfl rfl rfl rfl hneS hjl) ?_ rfl rfl (by kernel_rfl) (by kernel_rfl)
    refine D_take 9 rfl (T_fap rfl rfl rfl rfl rfl hneS) ?_ rfl rfl (by kernel_rfl) (by kernel_rfl)
    refine D_take 10 rfl (T_ldr (v := .slice D bs.length cd) rfl rfl rfl (Srd.old hSr (fun k _ => noOwns k)) (by omega) hat1) ?_ rfl rfl (by kernel_rfl) (by kernel_rfl)
    refine D_take 11 rfl (T_build3 rfl rfl rfl (pk_built3 _ _ _ _ _)) ?_ rfl rfl (by kernel_rfl) (by kernel_rfl)
    refine D_one 12 rfl (E_alloca rfl pk_zero) ?_ rfl rfl (by kernel_rfl)
    rintro _ _ ⟨b10, rfl, rfl⟩
    refine Nx_same sub_st ?_
    refine D_one 13 rfl (E_storew (cs := pkc (0, 0, none, 0, [])) (ds := [.int .i64 fr, .int .i64 to, .slice D bs.length cd]) rfl rfl rfl rfl (by simp [Value.oneCell']) rfl) ?_ rfl rfl (by kernel_rfl)
    rintro _ _ rfl
    refine Nx_same sub_st ?_
    refine D_done ?_ (by kernel_rfl)
    skip
    cases q1
    · focus (refine S_seq rfl ?_; refine S_region rfl rfl ?_; refine R_take (T_loads (ds := [.int .i64 fr, .int .i64 to, .slice D bs.length cd]) rfl rfl rfl rfl rfl) ?_ rfl rfl; (refine R_eff (E_hv0 (f := 40) ⟨_, Try.func40, rfl, by kernel_rfl⟩ (fun w hS => rightP_k w (fr, to, D, cd, bs) _ hpk) rfl rfl (fun _ => rfl)) ?_ rfl rfl; rintro _ _ ⟨_, rfl, _, rfl⟩); refine R_p rfl ?_ rfl rfl; refine R_skip ?_ rfl rfl; refine R_skip ?_ rfl rfl; refine R_skip ?_ rfl rfl; refine R_skip ?_ rfl rfl; refine R_skip ?_ rfl rfl; refine R_skip ?_ rfl rfl; refine R_skip ?_ rfl rfl; refine R_p rfl ?_ rfl rfl; refine R_p rfl ?_ rfl rfl; refine R_skip ?_ rfl rfl; refine R_skip ?_ rfl rfl; refine R_skip ?_ rfl rfl; refine R_p rfl ?_ rfl rfl; refine R_nil ?_; refine S_false rfl rfl ?_; refine S_skip rfl ?_; refine RS_blk ?_; refine S_region rfl rfl ?_; refine R_p rfl ?_ rfl rfl; refine R_take (T_addN rfl rfl (by unfold fits; omega)) ?_ rfl rfl; refine R_p rfl ?_ rfl rfl; refine R_nil ?_)
      exact hJ2 (j + 1, K, (A7, c7), R) _ _ ⟨by show j + 1 ≤ _; omega, hRK, by show K ≤ n + (j + 1); omega, by dsimp only; rw [hnx, hsay, if_neg (by simp)]; exact hR, hmm⟩ (Sub.cons rfl (Sub.cons rfl (Sub.cons rfl (Sub.cons rfl (Sub.cons rfl (Sub.cons rfl Sub.nil)))))) sub_st (by show k - (j + 1) < _; omega)
    cases q2
    · by_cases h80 : K < 80
      · focus (refine S_seq rfl ?_; refine S_region rfl rfl ?_; refine R_take (T_loads (ds := [.int .i64 fr, .int .i64 to, .slice D bs.length cd]) rfl rfl rfl rfl rfl) ?_ rfl rfl; (refine R_eff (E_hv0 (f := 40) ⟨_, Try.func40, rfl, by kernel_rfl⟩ (fun w hS => rightP_k w (fr, to, D, cd, bs) _ hpk) rfl rfl (fun _ => rfl)) ?_ rfl rfl; rintro _ _ ⟨_, rfl, _, rfl⟩); refine R_take (T_decT rfl (by omega)) ?_ rfl rfl; refine R_take (T_loads (ds := ntc A n c A2 n2 c2') rfl rfl rfl rfl rfl) ?_ rfl rfl; refine R_p rfl ?_ rfl rfl; refine R_take (T_load (v := .int .i64 fr) rfl rfl rfl rfl) ?_ rfl rfl; refine R_p rfl ?_ rfl rfl; refine R_take (T_load (v := .int .i64 to) rfl rfl rfl rfl) ?_ rfl rfl; (refine R_eff (E_hv0 (f := 18) ⟨_, Try.func18, rfl, by kernel_rfl⟩ (fun w hS => partedD_k w A c n P W hk hW ((Srd.old h (fun k _ => noOwns k)).rd w hS) A2 c2' n2 C hk2 ((Srd.old h2 (fun k _ => noOwns k)).rd w hS) hn hn2 fr to _ hpp) rfl rfl (fun _ => rfl)) ?_ rfl rfl; rintro _ _ ⟨_, rfl, _, rfl⟩); refine R_take (T_not rfl) ?_ rfl rfl; refine R_take (T_decT rfl (by omega)) ?_ rfl rfl; refine R_take (T_decT rfl (by omega)) ?_ rfl rfl; refine R_p rfl ?_ rfl rfl; refine R_p rfl ?_ rfl rfl; refine R_take (T_decT rfl (by omega)) ?_ rfl rfl; refine R_take (T_decT rfl (by omega)) ?_ rfl rfl; refine R_nil ?_; refine S_true rfl rfl ?_; refine S_region rfl rfl ?_; refine R_p rfl ?_ rfl rfl; refine R_take (T_loads (ds := [.int .i64 fr, .int .i64 to, .slice D bs.length cd]) rfl rfl rfl rfl rfl) ?_ rfl rfl; (refine R_eff (E_litS (vs := [.agg ([.int .i64 fr, .int .i64 to, .slice D bs.length cd]).toArray]) (size := 3) (ds := [.int .i64 fr, .int .i64 to, .slice D bs.length cd]) rfl rfl rfl rfl rfl rfl (by simp [vcells]) rfl (by omega)) ?_ rfl rfl; rintro _ _ ⟨vb, rfl, rfl⟩); (refine R_eff (E_appS (sz := 3) (m := K) (c := c7) (A := A7) rfl rfl rfl rfl rfl rfl rfl (by decide) (Srd.pt (n := 1) (g := vb) (ds := [.int .i64 fr, .int .i64 to, .slice D bs.length cd]) rfl (fun j u hj => by rw [Nat.zero_add]; exact hj)) (by simp [Value.oneCell']) (by show (K + 1) * 40 ≤ _; omega) (by unfold maxLen; omega)) ?_ rfl rfl; rintro _ _ ⟨A8, c8, rfl, rfl⟩); refine R_p rfl ?_ rfl rfl; refine R_nil ?_; refine RS_blk ?_; refine S_region rfl rfl ?_; refine R_p rfl ?_ rfl rfl; refine R_take (T_addN rfl rfl (by unfold fits; omega)) ?_ rfl rfl; refine R_p rfl ?_ rfl rfl; refine R_nil ?_)
        refine hJ2 (j + 1, K + 1, (A8, c8), R ++ [(fr, to, D, cd, bs)]) _ _ ⟨by show j + 1 ≤ _; omega, by dsimp only; rw [List.length_append, hRK]; rfl, by show K + 1 ≤ n + (j + 1); omega, by dsimp only; rw [hnx, hsay, if_pos (by rw [decide_eq_true h80]; rfl), List.map_append, hR]; rfl, fun m hm => ?_⟩ (Sub.cons rfl (Sub.cons rfl (Sub.cons rfl (Sub.cons rfl (Sub.cons rfl (Sub.cons rfl Sub.nil)))))) (fun w' hS => ?_) (by show k - (j + 1) < _; omega)
        · rcases List.mem_append.1 hm with h | h
          · exact hmm m h
          · rw [List.mem_singleton.1 h]
            exact List.mem_append_right _ (List.mem_map.2 ⟨_, hmem, rfl⟩)
        dsimp only
        have e1 : pkc (fr, to, D, cd, bs) = [.int .i64 fr, .int .i64 to, .slice D bs.length cd] := rfl
        rw [cellsL_app, cellsL_one, e1]
        exact sub_st (H' := [pt b3 25 (ntc A n c A2 n2 c2'), pt b6 25 (ntc none 0 0 none 0 0), row 30 3 A8 (K + 1) c8 (cellsL pkc R ++ [.int .i64 fr, .int .i64 to, .slice D bs.length cd])]) w' hS
      · focus (refine S_seq rfl ?_; refine S_region rfl rfl ?_; refine R_take (T_loads (ds := [.int .i64 fr, .int .i64 to, .slice D bs.length cd]) rfl rfl rfl rfl rfl) ?_ rfl rfl; (refine R_eff (E_hv0 (f := 40) ⟨_, Try.func40, rfl, by kernel_rfl⟩ (fun w hS => rightP_k w (fr, to, D, cd, bs) _ hpk) rfl rfl (fun _ => rfl)) ?_ rfl rfl; rintro _ _ ⟨_, rfl, _, rfl⟩); refine R_take (T_decT rfl (by omega)) ?_ rfl rfl; refine R_take (T_loads (ds := ntc A n c A2 n2 c2') rfl rfl rfl rfl rfl) ?_ rfl rfl; refine R_p rfl ?_ rfl rfl; refine R_take (T_load (v := .int .i64 fr) rfl rfl rfl rfl) ?_ rfl rfl; refine R_p rfl ?_ rfl rfl; refine R_take (T_load (v := .int .i64 to) rfl rfl rfl rfl) ?_ rfl rfl; (refine R_eff (E_hv0 (f := 18) ⟨_, Try.func18, rfl, by kernel_rfl⟩ (fun w hS => partedD_k w A c n P W hk hW ((Srd.old h (fun k _ => noOwns k)).rd w hS) A2 c2' n2 C hk2 ((Srd.old h2 (fun k _ => noOwns k)).rd w hS) hn hn2 fr to _ hpp) rfl rfl (fun _ => rfl)) ?_ rfl rfl; rintro _ _ ⟨_, rfl, _, rfl⟩); refine R_take (T_not rfl) ?_ rfl rfl; refine R_take (T_decT rfl (by omega)) ?_ rfl rfl; refine R_take (T_decT rfl (by omega)) ?_ rfl rfl; refine R_p rfl ?_ rfl rfl; refine R_p rfl ?_ rfl rfl; refine R_take (T_decF rfl (by omega)) ?_ rfl rfl; refine R_p rfl ?_ rfl rfl; refine R_nil ?_; refine S_false rfl rfl ?_; refine S_skip rfl ?_; refine RS_blk ?_; refine S_region rfl rfl ?_; refine R_p rfl ?_ rfl rfl; refine R_take (T_addN rfl rfl (by unfold fits; omega)) ?_ rfl rfl; refine R_p rfl ?_ rfl rfl; refine R_nil ?_)
        exact hJ2 (j + 1, K, (A7, c7), R) _ _ ⟨by show j + 1 ≤ _; omega, hRK, by show K ≤ n + (j + 1); omega, by dsimp only; rw [hnx, hsay, if_neg (by rw [decide_eq_false h80]; simp)]; exact hR, hmm⟩ (Sub.cons rfl (Sub.cons rfl (Sub.cons rfl (Sub.cons rfl (Sub.cons rfl (Sub.cons rfl Sub.nil)))))) sub_st (by show k - (j + 1) < _; omega)
    · focus (refine S_seq rfl ?_; refine S_region rfl rfl ?_; refine R_take (T_loads (ds := [.int .i64 fr, .int .i64 to, .slice D bs.length cd]) rfl rfl rfl rfl rfl) ?_ rfl rfl; (refine R_eff (E_hv0 (f := 40) ⟨_, Try.func40, rfl, by kernel_rfl⟩ (fun w hS => rightP_k w (fr, to, D, cd, bs) _ hpk) rfl rfl (fun _ => rfl)) ?_ rfl rfl; rintro _ _ ⟨_, rfl, _, rfl⟩); refine R_take (T_decT rfl (by omega)) ?_ rfl rfl; refine R_take (T_loads (ds := ntc A n c A2 n2 c2') rfl rfl rfl rfl rfl) ?_ rfl rfl; refine R_p rfl ?_ rfl rfl; refine R_take (T_load (v := .int .i64 fr) rfl rfl rfl rfl) ?_ rfl rfl; refine R_p rfl ?_ rfl rfl; refine R_take (T_load (v := .int .i64 to) rfl rfl rfl rfl) ?_ rfl rfl; (refine R_eff (E_hv0 (f := 18) ⟨_, Try.func18, rfl, by kernel_rfl⟩ (fun w hS => partedD_k w A c n P W hk hW ((Srd.old h (fun k _ => noOwns k)).rd w hS) A2 c2' n2 C hk2 ((Srd.old h2 (fun k _ => noOwns k)).rd w hS) hn hn2 fr to _ hpp) rfl rfl (fun _ => rfl)) ?_ rfl rfl; rintro _ _ ⟨_, rfl, _, rfl⟩); refine R_take (T_not rfl) ?_ rfl rfl; refine R_p rfl ?_ rfl rfl; refine R_p rfl ?_ rfl rfl; refine R_skip ?_ rfl rfl; refine R_skip ?_ rfl rfl; refine R_skip ?_ rfl rfl; refine R_p rfl ?_ rfl rfl; refine R_nil ?_; refine S_false rfl rfl ?_; refine S_skip rfl ?_; refine RS_blk ?_; refine S_region rfl rfl ?_; refine R_p rfl ?_ rfl rfl; refine R_take (T_addN rfl rfl (by unfold fits; omega)) ?_ rfl rfl; refine R_p rfl ?_ rfl rfl; refine R_nil ?_)
      exact hJ2 (j + 1, K, (A7, c7), R) _ _ ⟨by show j + 1 ≤ _; omega, hRK, by show K ≤ n + (j + 1); omega, by dsimp only; rw [hnx, hsay, if_neg (by simp)]; exact hR, hmm⟩ (Sub.cons rfl (Sub.cons rfl (Sub.cons rfl (Sub.cons rfl (Sub.cons rfl (Sub.cons rfl Sub.nil)))))) sub_st (by show k - (j + 1) < _; omega)
  have hjk : k = j := by omega
  subst hjk
  rw [← hSk, List.take_length] at hR
  have hK : (sendW C fr W (S.map sdv)).length = K := by rw [← hR, List.length_map, hRK]
  subst hK
  focus (refine S_seq rfl ?_; refine S_seq rfl ?_; refine S_region rfl rfl ?_; refine R_p rfl ?_ rfl rfl; refine R_p rfl ?_ rfl rfl; refine R_p rfl ?_ rfl rfl; refine R_take (T_decF rfl (by omega)) ?_ rfl rfl; refine R_nil ?_; refine S_false rfl rfl ?_; refine S_exit rfl rfl ?_; refine S_seq rfl ?_; refine S_region rfl rfl ?_; refine R_p rfl ?_ rfl rfl; refine R_p rfl ?_ rfl rfl; (refine R_eff0 (E_store1 rfl rfl rfl rfl rfl rfl (by show _ < 2; omega)) ?_ rfl; rintro _ _ rfl); refine R_nil ?_; refine S_seq rfl ?_; refine S_region rfl rfl ?_; refine R_take (T_loads (ds := ntc A7 (sendW C fr W (S.map sdv)).length c7 A2 n2 c2') rfl rfl rfl rfl rfl) ?_ rfl rfl; (refine R_eff0 (E_storew (cs := ntc none 0 0 none 0 0) (ds := ntc A7 (sendW C fr W (S.map sdv)).length c7 A2 n2 c2') rfl rfl rfl rfl (ntc_one _ _ _ _ _ _) rfl) ?_ rfl; rintro _ _ rfl); refine R_nil ?_)
  exact hB _ _ _ _ _ rfl (.cell rfl rfl rfl inferInstance rfl .nil) fun w' hS => ⟨((A7, c7), ⟨R, hR, hmm⟩), rfl, trivial, sub_st w' hS⟩
end Go.Proofs.Ytclmaoagdkhboaa
