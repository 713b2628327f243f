/- The document: Diff. -/
import Derived.Test.YtebbnbddlnpldaaPmN
namespace Go.Proofs.Ytebbnbddlnpldaa
open Go.RowKit
open Asn (pt row rb)
set_option linter.unusedVariables false
set_option linter.unusedSimpArgs false
--@use N

theorem fm_next {α : Type} (f : Str → Option α) (l : List Str) (j : Nat) (hj : j < l.length) {p : Str} (hp : l.getD j [] = p) {o : Option α} (ho : f p = o) : (l.take (j + 1)).filterMap f = (l.take j).filterMap f ++ o.toList := by
  subst hp
  subst ho
  rw [List.take_succ_eq_append_getElem hj, List.filterMap_append]
  simp only [List.getD, List.getElem?_eq_getElem hj, Option.getD_some, List.filterMap_cons, List.filterMap_nil]
  cases f l[j] <;> rfl
set_option maxRecDepth 100000 in
set_option maxHeartbeats 4000000 in
theorem rdiff_any (w : World) (A A2 : Option Addr) (n c n2 c2 : Nat) (L M : List Rw) (h : Rd w All 2 A n (cellsL rwc L)) (h2 : Rd w All 2 A2 n2 (cellsL rwc M)) (hn : n ≤ 200) (hn2 : n2 ≤ 200) :
    Gives Try.prog 24 [.agg #[.slice A n c], .agg #[.slice A2 n2 c2]] [] w (X := Option Addr × Nat) (fun x => .agg #[.slice x.1 (diffR L M).length x.2]) (fun _ => True) (fun x => [row 42 3 x.1 (diffR L M).length x.2 (cellsL chc (diffR L M))]) := by
  refine gives_C Try.func24 rfl Try.ntmps24 Try.results24 (by simp) (St.enter w) (fun B hB => ?_)
  have hl : L.length = n := by have := h.1; rw [cellsL_len rwc_len] at this; omega
  have hl2 : M.length = n2 := by have := h2.1; rw [cellsL_len rwc_len] at this; omega
  subst hl
  subst hl2
  have hl0 := paths_len [] (L.map (·.1))
  have hs0 := paths_srt (l := []) List.Pairwise.nil (L.map (·.1))
  rw [List.length_map, List.length_nil] at hl0
  obtain ⟨P0, hP0⟩ : ∃ P0, pathsS [] (L.map (·.1)) = P0 := ⟨_, rfl⟩
  have hall : allD L M = pathsS P0 (M.map (·.1)) := by rw [allD, hP0]
  have hl1 := paths_len P0 (M.map (·.1))
  rw [List.length_map, ← hall] at hl1
  rw [hP0] at hl0 hs0
  obtain ⟨l, hl⟩ : ∃ l, allD L M = l := ⟨_, rfl⟩
  have hra : diffR L M = l.filterMap (dOf L M) := by rw [diffR, hl]
  rw [hra] at hB
  rw [hl] at hl1 hall
  focus (refine S_seq rfl ?_; refine S_region rfl rfl ?_; (refine R_eff (E_boxa (cs := [.slice A L.length c]) rfl) ?_ rfl rfl; rintro _ _ ⟨b2, rfl, rfl⟩); (refine R_eff (E_boxa (cs := [.slice A2 M.length c2]) rfl) ?_ rfl rfl; rintro _ _ ⟨b3, rfl, rfl⟩); (refine R_eff (E_alloca rfl ed_alloc) ?_ rfl rfl; rintro _ _ ⟨b4, rfl, rfl⟩); refine R_nil ?_; refine S_seq rfl ?_)
  refine S_cut (X := Option Addr × Nat) (fun x => [(2, .pointer (some ⟨b2, 0, none⟩)), (3, .pointer (some ⟨b3, 0, none⟩)), (4, .pointer (some ⟨b4, 0, none⟩)), (5, .slice x.1 l.length x.2)]) (fun x => [row 9 1 x.1 l.length x.2 (l.map sv), pt b4 27 [.slice none 0 0], pt b3 24 [.slice A2 M.length c2], pt b2 24 [.slice A L.length c]]) (fun _ => True) (fun J hJ => ?_) (fun x _ => ?_)
  · skip
    refine S_draw ([pt b3 24 [.slice A2 M.length c2], pt b2 24 [.slice A L.length c]]) sub_st (by kernel_rfl) rfl (by kernel_rfl) (by kernel_rfl : _ = 5) ?_
    refine D_take 0 rfl (T_loada (ds := [.slice A L.length c]) rfl rfl rfl rfl (fun j v h => by simpa using h)) ?_ rfl rfl (by kernel_rfl) (by kernel_rfl)
    refine D_take 2 rfl (T_loada (ds := [.slice A2 M.length c2]) rfl rfl rfl rfl (fun j v h => by simpa using h)) ?_ rfl rfl (by kernel_rfl) (by kernel_rfl)
    refine D_one 1 rfl (E_rpaths0 (L := L) (fun k => noOwns k) rfl rfl h (by omega)) ?_ rfl rfl (by kernel_rfl)
    rintro _ _ ⟨A5, c5, rfl, rfl⟩; rw [hP0]
    refine Nx_same sub_st ?_
    refine D_one 3 rfl (E_ht1 (A1 := row 9 1 A5 P0.length c5 (P0.map sv)) ⟨_, Try.func28, rfl, by kernel_rfl⟩ (fun w hS hS2 => rpaths_any w A5 A2 P0.length c5 M.length c2 P0 M hs0 (rd_apart h2 (by decide) (fun k => noOwns k) hS) (by omega) hS2) rfl rfl (fun _ => rfl)) ?_ rfl rfl (by kernel_rfl)
    rintro _ _ ⟨⟨A6, c6⟩, rfl, _, rfl⟩
    refine Nx_same sub_st ?_
    refine D_take 4 rfl (pev_ok rfl) ?_ rfl rfl (by kernel_rfl) (by kernel_rfl)
    refine D_done ?_ (by kernel_rfl)
    skip
    rw [← hall]
    exact hJ (A6, c6) _ _ trivial (Sub.cons rfl (Sub.cons rfl (Sub.cons rfl (Sub.cons rfl Sub.nil)))) sub_st
  obtain ⟨A6, c6⟩ := x
  dsimp only
  have hlen : l.length ≤ 400 := by omega
  clear hall hl hl0 hs0 hP0 hra
  refine RS_row A6 l.length c6 fun _ _ hne6 _ => ?_
  focus (refine S_seq rfl ?_; refine S_region rfl rfl ?_; refine R_take (T_build0 ed_built0) ?_ rfl rfl; (refine R_eff (E_alloca rfl ed_alloc) ?_ rfl rfl; rintro _ _ ⟨b7, rfl, rfl⟩); (refine R_eff0 (E_storew (ds := [.slice none 0 0]) (cs := [.slice none 0 0]) rfl rfl rfl rfl (sl_one _ _ _) rfl) ?_ rfl; rintro _ _ rfl); refine R_nil ?_; refine S_seq rfl ?_; refine S_seq rfl ?_; refine S_region rfl rfl ?_; refine R_p rfl ?_ rfl rfl; refine R_nil ?_; refine S_block rfl ?_)
  refine S_loop (X := Nat × Option Addr × Nat) (fun x => [(2, .pointer (some ⟨b2, 0, none⟩)), (3, .pointer (some ⟨b3, 0, none⟩)), (4, .pointer (some ⟨b4, 0, none⟩)), (5, .slice A6 l.length c6), (6, .pointer (some ⟨b7, 0, none⟩)), (7, .int .i64 (x.1 : Int))]) (fun x => [row 42 3 x.2.1 ((l.take x.1).filterMap (dOf L M)).length x.2.2 (cellsL chc ((l.take x.1).filterMap (dOf L M))), pt b7 27 [.slice x.2.1 ((l.take x.1).filterMap (dOf L M)).length x.2.2], row 9 1 A6 l.length c6 (l.map sv), pt b4 27 [.slice none 0 0], pt b3 24 [.slice A2 M.length c2], pt b2 24 [.slice A L.length c]]) (fun x => x.1 ≤ l.length) (fun x => l.length - x.1) rfl (0, none, 0) (Nat.zero_le _) (Sub.cons rfl (Sub.cons rfl (Sub.cons rfl (Sub.cons rfl (Sub.cons rfl (Sub.cons rfl Sub.nil)))))) (fun w hS => sub_st (H' := [row 42 3 none 0 0 [], pt b7 27 [.slice none 0 0], row 9 1 A6 l.length c6 (l.map sv), pt b4 27 [.slice none 0 0], pt b3 24 [.slice A2 M.length c2], pt b2 24 [.slice A L.length c]]) w (hS.nilrow 42 3)) ?_
  rintro ⟨j, A8, c8⟩ hj J hJ
  dsimp only at hj ⊢
  have hnx := fun p (hp : l.getD j [] = p) o (ho : dOf L M p = o) => fun (hj : j < l.length) => fm_next (dOf L M) l j hj hp ho
  have hOl : ((l.take j).filterMap (dOf L M)).length ≤ j := Nat.le_trans (List.length_filterMap_le _ _) (by rw [List.length_take]; omega)
  have hend : j = l.length → l.filterMap (dOf L M) = (l.take j).filterMap (dOf L M) := fun e => by rw [e, List.take_length]
  obtain ⟨O, hO⟩ : ∃ O, (l.take j).filterMap (dOf L M) = O := ⟨_, rfl⟩
  rw [hO] at hnx hOl hend ⊢
  rcases Nat.lt_or_ge j l.length with hjl | hjl
  · have hne6 := hne6 (by omega)
    have hat := fun x (h : l.getD j [] = x) => sv_at hjl h
    obtain ⟨p, hp⟩ : ∃ p, l.getD j [] = p := ⟨_, rfl⟩
    have hat := hat p hp
    have hnx := fun o ho => hnx p hp o ho hjl
    obtain ⟨o, ho⟩ : ∃ o, fstK (·.1) L p = o := ⟨_, rfl⟩
    obtain ⟨q, hq⟩ : ∃ q, fstK (·.1) M p = q := ⟨_, rfl⟩
    focus (refine S_seq rfl ?_; refine S_seq rfl ?_; refine S_region rfl rfl ?_; refine R_p rfl ?_ rfl rfl; refine R_p rfl ?_ rfl rfl; refine R_p rfl ?_ rfl rfl; refine R_take (T_decT rfl (by omega)) ?_ rfl rfl; refine R_nil ?_; refine S_true rfl rfl ?_; refine S_skip rfl ?_; refine S_seq rfl ?_; refine S_block rfl ?_; refine S_seq rfl ?_)
    refine S_draw ([row 9 1 A6 l.length c6 (l.map sv), pt b2 24 [.slice A L.length c]]) sub_st (by kernel_rfl) rfl (by kernel_rfl) (by kernel_rfl : _ = 11) ?_
    refine D_take 0 rfl (T_loada (ds := [.slice A L.length c]) rfl rfl rfl rfl (fun j v h => by simpa using h)) ?_ rfl rfl (by kernel_rfl) (by kernel_rfl)
    refine D_take 1 rfl (pev_ok rfl) ?_ rfl rfl (by kernel_rfl) (by kernel_rfl)
    refine D_take 2 rfl (pev_ok rfl) ?_ rfl rfl (by kernel_rfl) (by kernel_rfl)
    refine D_take 3 rfl (T_ixN rfl rfl rfl rfl rfl rfl hne6 hjl) ?_ rfl rfl (by kernel_rfl) (by kernel_rfl)
    refine D_take 4 rfl (T_ldr rfl rfl rfl (Srd.row (n := l.length) (c := c6)) (by omega) hat) ?_ rfl rfl (by kernel_rfl) (by kernel_rfl)
    refine D_one 5 rfl (E_rgetW (L := L) (p := p) rfl rfl (Srd.old h (fun k _ => noOwns k)) (by omega) ho) ?_ rfl rfl (by kernel_rfl)
    rintro _ _ ⟨rfl, rfl⟩
    refine Nx_same sub_st ?_
    refine D_take 6 rfl (pev_ok rfl) ?_ rfl rfl (by kernel_rfl) (by kernel_rfl)
    refine D_take 7 rfl (pev_ok rfl) ?_ rfl rfl (by kernel_rfl) (by kernel_rfl)
    refine D_take 8 rfl (pev_ok rfl) ?_ rfl rfl (by kernel_rfl) (by kernel_rfl)
    refine D_take 9 rfl (pev_ok rfl) ?_ rfl rfl (by kernel_rfl) (by kernel_rfl)
    refine D_take 10 rfl (pev_ok rfl) ?_ rfl rfl (by kernel_rfl) (by kernel_rfl)
    refine D_done ?_ (by kernel_rfl)
    skip
    focus (refine S_seq rfl ?_)
    refine S_draw ([row 9 1 A6 l.length c6 (l.map sv), pt b3 24 [.slice A2 M.length c2]]) sub_st (by kernel_rfl) rfl (by kernel_rfl) (by kernel_rfl : _ = 11) ?_
    refine D_take 0 rfl (T_loada (ds := [.slice A2 M.length c2]) rfl rfl rfl rfl (fun j v h => by simpa using h)) ?_ rfl rfl (by kernel_rfl) (by kernel_rfl)
    refine D_take 1 rfl (pev_ok rfl) ?_ rfl rfl (by kernel_rfl) (by kernel_rfl)
    refine D_take 2 rfl (pev_ok rfl) ?_ rfl rfl (by kernel_rfl) (by kernel_rfl)
    refine D_take 3 rfl (T_ixN rfl rfl rfl rfl rfl rfl hne6 hjl) ?_ rfl rfl (by kernel_rfl) (by kernel_rfl)
    refine D_take 4 rfl (T_ldr rfl rfl rfl (Srd.row (n := l.length) (c := c6)) (by omega) hat) ?_ rfl rfl (by kernel_rfl) (by kernel_rfl)
    refine D_one 5 rfl (E_rgetW (L := M) (p := p) rfl rfl (Srd.old h2 (fun k _ => noOwns k)) (by omega) hq) ?_ rfl rfl (by kernel_rfl)
    rintro _ _ ⟨rfl, rfl⟩
    refine Nx_same sub_st ?_
    refine D_take 6 rfl (pev_ok rfl) ?_ rfl rfl (by kernel_rfl) (by kernel_rfl)
    refine D_take 7 rfl (pev_ok rfl) ?_ rfl rfl (by kernel_rfl) (by kernel_rfl)
    refine D_take 8 rfl (pev_ok rfl) ?_ rfl rfl (by kernel_rfl) (by kernel_rfl)
    refine D_take 9 rfl (pev_ok rfl) ?_ rfl rfl (by kernel_rfl) (by kernel_rfl)
    refine D_take 10 rfl (pev_ok rfl) ?_ rfl rfl (by kernel_rfl) (by kernel_rfl)
    refine D_done ?_ (by kernel_rfl)
    skip
    cases o with
    | none =>
      cases q with
      | none =>
        have hnx := hnx none (by rw [dOf, ho, hq]; simp)
        rw [show O ++ (none : Option Ch).toList = O by simp] at hnx
        have hcm : scmp .neq (gt none) (gt none) = some false := by simp [scmp]
        focus (refine S_seq rfl ?_; refine S_region rfl rfl ?_; refine R_p rfl ?_ rfl rfl; refine R_p rfl ?_ rfl rfl; refine R_take (T_bne rfl rfl rfl rfl) ?_ rfl rfl; refine R_p rfl ?_ rfl rfl; refine R_p rfl ?_ rfl rfl; refine R_p rfl ?_ rfl rfl; refine R_take (T_scm (a := gt none) (b := gt none) rfl rfl hcm) ?_ rfl rfl; refine R_p rfl ?_ rfl rfl; refine R_nil ?_; refine S_false rfl rfl ?_; refine S_skip rfl ?_; refine RS_blk ?_; refine S_region rfl rfl ?_; refine R_p rfl ?_ rfl rfl; refine R_take (T_addN rfl rfl (by unfold fits; omega)) ?_ rfl rfl; refine R_p rfl ?_ rfl rfl; refine R_nil ?_)
        refine hJ (j + 1, A8, c8) _ _ (by show j + 1 ≤ _; omega) ?_ (fun w' hS => ?_) (by dsimp only; omega)
        · exact (Sub.cons rfl (Sub.cons rfl (Sub.cons rfl (Sub.cons rfl (Sub.cons rfl (Sub.cons rfl Sub.nil))))))
        · dsimp only
          rw [hnx]
          exact sub_st w' hS
      | some y =>
        have hnx := hnx (some (p, true, y.2)) (by rw [dOf, ho, hq]; simp [gt])
        rw [show O ++ (some ((p, true, y.2) : Ch)).toList = O ++ [(p, true, y.2)] from rfl] at hnx
        focus (refine S_seq rfl ?_; refine S_region rfl rfl ?_; refine R_p rfl ?_ rfl rfl; refine R_p rfl ?_ rfl rfl; refine R_take (T_bne rfl rfl rfl rfl) ?_ rfl rfl; refine R_p rfl ?_ rfl rfl; refine R_skip ?_ rfl rfl; refine R_skip ?_ rfl rfl; refine R_skip ?_ rfl rfl; refine R_p rfl ?_ rfl rfl; refine R_nil ?_; refine S_true rfl rfl ?_)
        refine S_draw ([pt b7 27 [.slice A8 O.length c8], row 9 1 A6 l.length c6 (l.map sv)]) sub_st (by kernel_rfl) rfl (by kernel_rfl) (by kernel_rfl : _ = 13) ?_
        refine D_take 0 rfl (pev_ok rfl) ?_ rfl rfl (by kernel_rfl) (by kernel_rfl)
        refine D_take 1 rfl (T_load rfl rfl rfl (by first | rfl | assumption)) ?_ rfl rfl (by kernel_rfl) (by kernel_rfl)
        refine D_take 2 rfl (pev_ok rfl) ?_ rfl rfl (by kernel_rfl) (by kernel_rfl)
        refine D_take 3 rfl (pev_ok rfl) ?_ rfl rfl (by kernel_rfl) (by kernel_rfl)
        refine D_take 4 rfl (T_ixN rfl rfl rfl rfl rfl rfl hne6 hjl) ?_ rfl rfl (by kernel_rfl) (by kernel_rfl)
        refine D_take 5 rfl (T_ldr rfl rfl rfl (Srd.row (n := l.length) (c := c6)) (by omega) hat) ?_ rfl rfl (by kernel_rfl) (by kernel_rfl)
        refine D_take 6 rfl (pev_ok rfl) ?_ rfl rfl (by kernel_rfl) (by kernel_rfl)
        refine D_take 7 rfl (pev_ok rfl) ?_ rfl rfl (by kernel_rfl) (by kernel_rfl)
        refine D_take 8 rfl (T_build3 rfl rfl rfl (ch_built3 p y.2 true)) ?_ rfl rfl (by kernel_rfl) (by kernel_rfl)
        refine D_one 9 rfl (E_litS (vs := [.agg (chc (p, true, y.2)).toArray]) (size := 3) (ds := chc (p, true, y.2)) rfl rfl rfl rfl rfl rfl (by simp [vcells, chc]) rfl (by omega)) ?_ rfl rfl (by kernel_rfl)
        rintro _ _ ⟨vb, rfl, rfl⟩
        refine Nx_same sub_st ?_
        refine D_one 10 rfl (E_appS (sz := 3) (m := O.length) (c := c8) (A := A8) rfl rfl rfl rfl rfl rfl rfl (by decide) (Srd.pt (n := 1) (g := vb) (ds := chc (p, true, y.2)) rfl (fun j u hj => by rw [Nat.zero_add]; exact hj)) (chc_one _) (by show (O.length + 1) * 40 ≤ _; omega) (by unfold maxLen; omega)) ?_ rfl rfl (by kernel_rfl)
        rintro _ _ ⟨A9, c9, rfl, rfl⟩
        refine Nx_same sub_st ?_
        refine D_take 11 rfl (pev_ok rfl) ?_ rfl rfl (by kernel_rfl) (by kernel_rfl)
        refine D_one 12 rfl (E_store1 rfl rfl rfl rfl rfl rfl (by first | (simp; done) | (simp; omega) | decide)) ?_ rfl rfl (by kernel_rfl)
        rintro _ _ rfl
        refine Nx_pivot (by kernel_rfl) ?_
        refine D_done ?_ (by kernel_rfl)
        skip
        focus (refine RS_blk ?_; refine S_region rfl rfl ?_; refine R_p rfl ?_ rfl rfl; refine R_take (T_addN rfl rfl (by unfold fits; omega)) ?_ rfl rfl; refine R_p rfl ?_ rfl rfl; refine R_nil ?_)
        have e1 : (O ++ [(p, true, y.2)]).length = O.length + 1 := by simp
        refine hJ (j + 1, A9, c9) _ _ (by show j + 1 ≤ _; omega) ?_ (fun w' hS => ?_) (by dsimp only; omega)
        · exact (Sub.cons rfl (Sub.cons rfl (Sub.cons rfl (Sub.cons rfl (Sub.cons rfl (Sub.cons rfl Sub.nil))))))
        · dsimp only
          rw [hnx, e1, cellsL_app, cellsL_one]
          simp only [Nat.add_zero, List.set_cons_zero] at hS
          exact sub_st w' hS
    | some x =>
      cases q with
      | none =>
        have hnx := hnx (some (p, false, [])) (by rw [dOf, ho, hq]; simp [gt])
        rw [show O ++ (some ((p, false, []) : Ch)).toList = O ++ [(p, false, [])] from rfl] at hnx
        focus (refine S_seq rfl ?_; refine S_region rfl rfl ?_; refine R_p rfl ?_ rfl rfl; refine R_p rfl ?_ rfl rfl; refine R_take (T_bne rfl rfl rfl rfl) ?_ rfl rfl; refine R_p rfl ?_ rfl rfl; refine R_skip ?_ rfl rfl; refine R_skip ?_ rfl rfl; refine R_skip ?_ rfl rfl; refine R_p rfl ?_ rfl rfl; refine R_nil ?_; refine S_true rfl rfl ?_)
        refine S_draw ([pt b7 27 [.slice A8 O.length c8], row 9 1 A6 l.length c6 (l.map sv)]) sub_st (by kernel_rfl) rfl (by kernel_rfl) (by kernel_rfl : _ = 13) ?_
        refine D_take 0 rfl (pev_ok rfl) ?_ rfl rfl (by kernel_rfl) (by kernel_rfl)
        refine D_take 1 rfl (T_load rfl rfl rfl (by first | rfl | assumption)) ?_ rfl rfl (by kernel_rfl) (by kernel_rfl)
        refine D_take 2 rfl (pev_ok rfl) ?_ rfl rfl (by kernel_rfl) (by kernel_rfl)
        refine D_take 3 rfl (pev_ok rfl) ?_ rfl rfl (by kernel_rfl) (by kernel_rfl)
        refine D_take 4 rfl (T_ixN rfl rfl rfl rfl rfl rfl hne6 hjl) ?_ rfl rfl (by kernel_rfl) (by kernel_rfl)
        refine D_take 5 rfl (T_ldr rfl rfl rfl (Srd.row (n := l.length) (c := c6)) (by omega) hat) ?_ rfl rfl (by kernel_rfl) (by kernel_rfl)
        refine D_take 6 rfl (pev_ok rfl) ?_ rfl rfl (by kernel_rfl) (by kernel_rfl)
        refine D_take 7 rfl (pev_ok rfl) ?_ rfl rfl (by kernel_rfl) (by kernel_rfl)
        refine D_take 8 rfl (T_build3 rfl rfl rfl (ch_built3 p [] false)) ?_ rfl rfl (by kernel_rfl) (by kernel_rfl)
        refine D_one 9 rfl (E_litS (vs := [.agg (chc (p, false, [])).toArray]) (size := 3) (ds := chc (p, false, [])) rfl rfl rfl rfl rfl rfl (by simp [vcells, chc]) rfl (by omega)) ?_ rfl rfl (by kernel_rfl)
        rintro _ _ ⟨vb, rfl, rfl⟩
        refine Nx_same sub_st ?_
        refine D_one 10 rfl (E_appS (sz := 3) (m := O.length) (c := c8) (A := A8) rfl rfl rfl rfl rfl rfl rfl (by decide) (Srd.pt (n := 1) (g := vb) (ds := chc (p, false, [])) rfl (fun j u hj => by rw [Nat.zero_add]; exact hj)) (chc_one _) (by show (O.length + 1) * 40 ≤ _; omega) (by unfold maxLen; omega)) ?_ rfl rfl (by kernel_rfl)
        rintro _ _ ⟨A9, c9, rfl, rfl⟩
        refine Nx_same sub_st ?_
        refine D_take 11 rfl (pev_ok rfl) ?_ rfl rfl (by kernel_rfl) (by kernel_rfl)
        refine D_one 12 rfl (E_store1 rfl rfl rfl rfl rfl rfl (by first | (simp; done) | (simp; omega) | decide)) ?_ rfl rfl (by kernel_rfl)
        rintro _ _ rfl
        refine Nx_pivot (by kernel_rfl) ?_
        refine D_done ?_ (by kernel_rfl)
        skip
        focus (refine RS_blk ?_; refine S_region rfl rfl ?_; refine R_p rfl ?_ rfl rfl; refine R_take (T_addN rfl rfl (by unfold fits; omega)) ?_ rfl rfl; refine R_p rfl ?_ rfl rfl; refine R_nil ?_)
        have e1 : (O ++ [(p, false, [])]).length = O.length + 1 := by simp
        refine hJ (j + 1, A9, c9) _ _ (by show j + 1 ≤ _; omega) ?_ (fun w' hS => ?_) (by dsimp only; omega)
        · exact (Sub.cons rfl (Sub.cons rfl (Sub.cons rfl (Sub.cons rfl (Sub.cons rfl (Sub.cons rfl Sub.nil))))))
        · dsimp only
          rw [hnx, e1, cellsL_app, cellsL_one]
          simp only [Nat.add_zero, List.set_cons_zero] at hS
          exact sub_st w' hS
      | some y =>
        by_cases hxy : x.2 = y.2
        · have hnx := hnx none (by rw [dOf, ho, hq]; simp [gt, hxy])
          rw [show O ++ (none : Option Ch).toList = O by simp] at hnx
          have hcm : scmp .neq (gt (some x)) (gt (some y)) = some false := by simp [scmp, gt, hxy]
          focus (refine S_seq rfl ?_; refine S_region rfl rfl ?_; refine R_p rfl ?_ rfl rfl; refine R_p rfl ?_ rfl rfl; refine R_take (T_bne rfl rfl rfl rfl) ?_ rfl rfl; refine R_p rfl ?_ rfl rfl; refine R_p rfl ?_ rfl rfl; refine R_p rfl ?_ rfl rfl; refine R_take (T_scm (a := gt (some x)) (b := gt (some y)) rfl rfl hcm) ?_ rfl rfl; refine R_p rfl ?_ rfl rfl; refine R_nil ?_; refine S_false rfl rfl ?_; refine S_skip rfl ?_; refine RS_blk ?_; refine S_region rfl rfl ?_; refine R_p rfl ?_ rfl rfl; refine R_take (T_addN rfl rfl (by unfold fits; omega)) ?_ rfl rfl; refine R_p rfl ?_ rfl rfl; refine R_nil ?_)
          refine hJ (j + 1, A8, c8) _ _ (by show j + 1 ≤ _; omega) ?_ (fun w' hS => ?_) (by dsimp only; omega)
          · exact (Sub.cons rfl (Sub.cons rfl (Sub.cons rfl (Sub.cons rfl (Sub.cons rfl (Sub.cons rfl Sub.nil))))))
          · dsimp only
            rw [hnx]
            exact sub_st w' hS
        · have hnx := hnx (some (p, true, y.2)) (by rw [dOf, ho, hq]; simp [gt, hxy])
          rw [show O ++ (some ((p, true, y.2) : Ch)).toList = O ++ [(p, true, y.2)] from rfl] at hnx
          have hcm : scmp .neq (gt (some x)) (gt (some y)) = some true := by simp [scmp, gt, hxy]
          focus (refine S_seq rfl ?_; refine S_region rfl rfl ?_; refine R_p rfl ?_ rfl rfl; refine R_p rfl ?_ rfl rfl; refine R_take (T_bne rfl rfl rfl rfl) ?_ rfl rfl; refine R_p rfl ?_ rfl rfl; refine R_p rfl ?_ rfl rfl; refine R_p rfl ?_ rfl rfl; refine R_take (T_scm (a := gt (some x)) (b := gt (some y)) rfl rfl hcm) ?_ rfl rfl; refine R_p rfl ?_ rfl rfl; refine R_nil ?_; refine S_true rfl rfl ?_)
          refine S_draw ([pt b7 27 [.slice A8 O.length c8], row 9 1 A6 l.length c6 (l.map sv)]) sub_st (by kernel_rfl) rfl (by kernel_rfl) (by kernel_rfl : _ = 13) ?_
          refine D_take 0 rfl (pev_ok rfl) ?_ rfl rfl (by kernel_rfl) (by kernel_rfl)
          refine D_take 1 rfl (T_load rfl rfl rfl (by first | rfl | assumption)) ?_ rfl rfl (by kernel_rfl) (by kernel_rfl)
          refine D_take 2 rfl (pev_ok rfl) ?_ rfl rfl (by kernel_rfl) (by kernel_rfl)
          refine D_take 3 rfl (pev_ok rfl) ?_ rfl rfl (by kernel_rfl) (by kernel_rfl)
          refine D_take 4 rfl (T_ixN rfl rfl rfl rfl rfl rfl hne6 hjl) ?_ rfl rfl (by kernel_rfl) (by kernel_rfl)
          refine D_take 5 rfl (T_ldr rfl rfl rfl (Srd.row (n := l.length) (c := c6)) (by omega) hat) ?_ rfl rfl (by kernel_rfl) (by kernel_rfl)
          refine D_take 6 rfl (pev_ok rfl) ?_ rfl rfl (by kernel_rfl) (by kernel_rfl)
          refine D_take 7 rfl (pev_ok rfl) ?_ rfl rfl (by kernel_rfl) (by kernel_rfl)
          refine D_take 8 rfl (T_build3 rfl rfl rfl (ch_built3 p y.2 true)) ?_ rfl rfl (by kernel_rfl) (by kernel_rfl)
          refine D_one 9 rfl (E_litS (vs := [.agg (chc (p, true, y.2)).toArray]) (size := 3) (ds := chc (p, true, y.2)) rfl rfl rfl rfl rfl rfl (by simp [vcells, chc]) rfl (by omega)) ?_ rfl rfl (by kernel_rfl)
          rintro _ _ ⟨vb, rfl, rfl⟩
          refine Nx_same sub_st ?_
          refine D_one 10 rfl (E_appS (sz := 3) (m := O.length) (c := c8) (A := A8) rfl rfl rfl rfl rfl rfl rfl (by decide) (Srd.pt (n := 1) (g := vb) (ds := chc (p, true, y.2)) rfl (fun j u hj => by rw [Nat.zero_add]; exact hj)) (chc_one _) (by show (O.length + 1) * 40 ≤ _; omega) (by unfold maxLen; omega)) ?_ rfl rfl (by kernel_rfl)
          rintro _ _ ⟨A9, c9, rfl, rfl⟩
          refine Nx_same sub_st ?_
          refine D_take 11 rfl (pev_ok rfl) ?_ rfl rfl (by kernel_rfl) (by kernel_rfl)
          refine D_one 12 rfl (E_store1 rfl rfl rfl rfl rfl rfl (by first | (simp; done) | (simp; omega) | decide)) ?_ rfl rfl (by kernel_rfl)
          rintro _ _ rfl
          refine Nx_pivot (by kernel_rfl) ?_
          refine D_done ?_ (by kernel_rfl)
          skip
          focus (refine RS_blk ?_; refine S_region rfl rfl ?_; refine R_p rfl ?_ rfl rfl; refine R_take (T_addN rfl rfl (by unfold fits; omega)) ?_ rfl rfl; refine R_p rfl ?_ rfl rfl; refine R_nil ?_)
          have e1 : (O ++ [(p, true, y.2)]).length = O.length + 1 := by simp
          refine hJ (j + 1, A9, c9) _ _ (by show j + 1 ≤ _; omega) ?_ (fun w' hS => ?_) (by dsimp only; omega)
          · exact (Sub.cons rfl (Sub.cons rfl (Sub.cons rfl (Sub.cons rfl (Sub.cons rfl (Sub.cons rfl Sub.nil))))))
          · dsimp only
            rw [hnx, e1, cellsL_app, cellsL_one]
            simp only [Nat.add_zero, List.set_cons_zero] at hS
            exact sub_st w' hS
  have hend := hend (by omega)
  rw [hend] at hB
  focus (refine S_seq rfl ?_; refine S_seq rfl ?_; refine S_region rfl rfl ?_; refine R_p rfl ?_ rfl rfl; refine R_p rfl ?_ rfl rfl; refine R_p rfl ?_ rfl rfl; refine R_take (T_decF rfl (by omega)) ?_ rfl rfl; refine R_nil ?_; refine S_false rfl rfl ?_; refine S_exit rfl rfl ?_; refine S_seq rfl ?_; refine S_region rfl rfl ?_; refine R_take (T_loada (ds := [.slice A8 O.length c8]) rfl rfl rfl rfl (fun j v h => by simpa using h)) ?_ rfl rfl; (refine R_eff0 (E_storew (ds := [.slice A8 O.length c8]) (cs := [.slice none 0 0]) rfl rfl rfl rfl (sl_one _ _ _) rfl) ?_ rfl; rintro _ _ rfl); refine R_nil ?_)
  refine hB _ _ _ _ _ rfl (.cell rfl rfl rfl inferInstance rfl .nil) fun w' hS => ⟨(A8, c8), rfl, trivial, sub_st _ hS⟩
end Go.Proofs.Ytebbnbddlnpldaa
