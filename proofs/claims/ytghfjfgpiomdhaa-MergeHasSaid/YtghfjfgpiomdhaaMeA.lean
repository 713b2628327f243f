/- Merges by the document: conflicts. -/
import Derived.Test.YtghfjfgpiomdhaaMe9
import Derived.Test.YtghfjfgpiomdhaaRkI
namespace Go.Proofs.Ytghfjfgpiomdhaa
open Go.RowKit
open Asn (pt row rb)
set_option linter.unusedVariables false
set_option linter.unusedSimpArgs false
--@use N

/-- the conflicts of three maps, by the document -/
def rcnfs (L1 L2 L3 : List Rw) : List Cn := ((pathsR L1 L2 L3).map (cnOf L1 L2 L3)).filter fun c => !(settle_ c).2
def rcnf1 (L1 L2 L3 : List Rw) (p : Str) : Option Cn := if (settle_ (cnOf L1 L2 L3 p)).2 then none else some (cnOf L1 L2 L3 p)
theorem rcnfs_fm (L1 L2 L3 : List Rw) : rcnfs L1 L2 L3 = (pathsR L1 L2 L3).filterMap (rcnf1 L1 L2 L3) := by
  rw [rcnfs]
  induction pathsR L1 L2 L3 with
  | nil => rfl
  | cons p l ih =>
    rw [List.map_cons, List.filter_cons, List.filterMap_cons, ih]
    unfold rcnf1
    cases (settle_ (cnOf L1 L2 L3 p)).2 <;> rfl
set_option maxRecDepth 100000 in
set_option maxHeartbeats 4000000 in
theorem rconflicts_any (w : World) (A1 A2 A3 : Option Addr) (c1' c2' c3' : Nat) (L1 L2 L3 : List Rw) (h1 : Rd w All 2 A1 L1.length (cellsL rwc L1)) (h2 : Rd w All 2 A2 L2.length (cellsL rwc L2)) (h3 : Rd w All 2 A3 L3.length (cellsL rwc L3)) (hn1 : L1.length ≤ 250) (hn2 : L2.length ≤ 250) (hn3 : L3.length ≤ 250) :
    Gives Try.prog 18 [.agg #[.slice A1 L1.length c1'], .agg #[.slice A2 L2.length c2'], .agg #[.slice A3 L3.length c3']] [] w (X := Option Addr × Nat) (fun x => .slice x.1 (rcnfs L1 L2 L3).length x.2) (fun _ => True) (fun x => [row 52 7 x.1 (rcnfs L1 L2 L3).length x.2 (cellsL cnc (rcnfs L1 L2 L3))]) := by
  refine gives_S Try.func18 rfl Try.ntmps18 Try.results18 (by simp) (St.enter w) (fun B hB => ?_)
  have hll := pathsR_len L1 L2 L3
  rw [rcnfs_fm] at hB
  obtain ⟨l, hl⟩ : ∃ l, pathsR L1 L2 L3 = l := ⟨_, rfl⟩
  rw [hl] at hB hll
  focus (refine S_seq rfl ?_; refine S_region rfl rfl ?_; (refine R_eff (E_boxa (cs := [.slice A1 L1.length c1']) rfl) ?_ rfl rfl; rintro _ _ ⟨b1, rfl, rfl⟩); (refine R_eff (E_boxa (cs := [.slice A2 L2.length c2']) rfl) ?_ rfl rfl; rintro _ _ ⟨b2, rfl, rfl⟩); (refine R_eff (E_boxa (cs := [.slice A3 L3.length c3']) rfl) ?_ rfl rfl; rintro _ _ ⟨b3, rfl, rfl⟩); refine R_p rfl ?_ rfl rfl; refine R_nil ?_; refine S_seq rfl ?_; refine S_region rfl rfl ?_; refine R_p rfl ?_ rfl rfl; refine R_nil ?_; refine S_seq rfl ?_; refine S_region rfl rfl ?_; refine R_take (T_loada (ds := [.slice A1 L1.length c1']) rfl rfl rfl rfl (fun j v h => by simpa using h)) ?_ rfl rfl; refine R_take (T_loada (ds := [.slice A2 L2.length c2']) rfl rfl rfl rfl (fun j v h => by simpa using h)) ?_ rfl rfl; refine R_take (T_loada (ds := [.slice A3 L3.length c3']) rfl rfl rfl rfl (fun j v h => by simpa using h)) ?_ rfl rfl; ((refine R_eff (E_hv1 (f := 47) ⟨_, Try.func47, rfl, by kernel_rfl⟩ (fun w hS => r3paths_any w A1 A2 A3 c1' c2' c3' L1 L2 L3 ((Srd.old h1 (fun k _ => noOwns k)).rd w hS) ((Srd.old h2 (fun k _ => noOwns k)).rd w hS) ((Srd.old h3 (fun k _ => noOwns k)).rd w hS) hn1 hn2 hn3) rfl rfl (fun _ => rfl)) ?_ rfl rfl; rintro _ _ ⟨⟨A6, c6⟩, rfl, _, rfl⟩); rw [hl]); refine R_p rfl ?_ rfl rfl; refine R_nil ?_; refine S_seq rfl ?_; refine S_seq rfl ?_; refine S_region rfl rfl ?_; refine R_p rfl ?_ rfl rfl; refine R_nil ?_; refine S_block rfl ?_)
  refine RS_row A6 l.length c6 fun _ _ hne6 _ => ?_
  refine S_loop (X := Nat × Option Addr × Nat) (fun x => [(3, .pointer (some ⟨b1, 0, none⟩)), (4, .pointer (some ⟨b2, 0, none⟩)), (5, .pointer (some ⟨b3, 0, none⟩)), (7, .slice x.2.1 ((l.take x.1).filterMap (rcnf1 L1 L2 L3)).length x.2.2), (8, .slice A6 l.length c6), (9, .int .i64 (x.1 : Int))]) (fun x => [row 52 7 x.2.1 ((l.take x.1).filterMap (rcnf1 L1 L2 L3)).length x.2.2 (cellsL cnc ((l.take x.1).filterMap (rcnf1 L1 L2 L3))), row 9 1 A6 l.length c6 (l.map sv), pt b3 24 [.slice A3 L3.length c3'], pt b2 24 [.slice A2 L2.length c2'], pt b1 24 [.slice A1 L1.length c1']]) (fun x => x.1 ≤ l.length) (fun x => l.length - x.1) rfl (0, none, 0) (Nat.zero_le _) (Sub.cons rfl (Sub.cons rfl (Sub.cons rfl (Sub.cons rfl (Sub.cons rfl (Sub.cons rfl Sub.nil)))))) (fun w hS => sub_st (H' := [row 52 7 none 0 0 [], row 9 1 A6 l.length c6 (l.map sv), pt b3 24 [.slice A3 L3.length c3'], pt b2 24 [.slice A2 L2.length c2'], pt b1 24 [.slice A1 L1.length c1']]) w (hS.nilrow 52 7)) ?_
  rintro ⟨j, A8, c8⟩ hj J hJ
  dsimp only at hj ⊢
  have hnx := fun (hj : j < l.length) (p : Str) (hp : l.getD j default = p) (o : Option Cn) (ho : rcnf1 L1 L2 L3 p = o) => fm_nextC (rcnf1 L1 L2 L3) l j hj hp ho
  have hOl : ((l.take j).filterMap (rcnf1 L1 L2 L3)).length ≤ j := Nat.le_trans (List.length_filterMap_le _ _) (by rw [List.length_take]; omega)
  have hend : j = l.length → l.filterMap (rcnf1 L1 L2 L3) = (l.take j).filterMap (rcnf1 L1 L2 L3) := fun e => by rw [e, List.take_length]
  obtain ⟨O, hO⟩ : ∃ O, (l.take j).filterMap (rcnf1 L1 L2 L3) = O := ⟨_, rfl⟩
  rw [hO] at hnx hOl hend ⊢
  rcases Nat.lt_or_ge j l.length with hjl | hjl
  · have hne6 := hne6 (by omega)
    have hat := fun x (h : l.getD j [] = x) => sv_at hjl h
    obtain ⟨p, hp⟩ : ∃ p, l.getD j [] = p := ⟨_, rfl⟩
    have hat := hat p hp
    have hnx := hnx hjl p hp
    focus (refine S_seq rfl ?_; refine S_seq rfl ?_; refine S_region rfl rfl ?_; refine R_p rfl ?_ rfl rfl; refine R_p rfl ?_ rfl rfl; refine R_p rfl ?_ rfl rfl; refine R_take (T_decT rfl (by omega)) ?_ rfl rfl; refine R_nil ?_; refine S_true rfl rfl ?_; refine S_skip rfl ?_; refine S_seq rfl ?_; refine S_block rfl ?_; refine S_seq rfl ?_)
    refine S_draw ([row 9 1 A6 l.length c6 (l.map sv), pt b3 24 [.slice A3 L3.length c3'], pt b2 24 [.slice A2 L2.length c2'], pt b1 24 [.slice A1 L1.length c1']]) sub_st (by kernel_rfl) rfl (by kernel_rfl) (by kernel_rfl : _ = 24) ?_
    refine D_take 0 rfl (T_loada (ds := [.slice A1 L1.length c1']) rfl rfl rfl rfl (fun j v h => by simpa using h)) ?_ rfl rfl (by kernel_rfl) (by kernel_rfl)
    refine D_take 1 rfl (pev_ok rfl) ?_ rfl rfl (by kernel_rfl) (by kernel_rfl)
    refine D_take 2 rfl (pev_ok rfl) ?_ rfl rfl (by kernel_rfl) (by kernel_rfl)
    refine D_take 3 rfl (T_ixN rfl rfl rfl rfl rfl rfl hne6 hjl) ?_ rfl rfl (by kernel_rfl) (by kernel_rfl)
    refine D_take 4 rfl (T_ldr rfl rfl rfl (Srd.row (n := l.length) (c := c6)) (by omega) hat) ?_ rfl rfl (by kernel_rfl) (by kernel_rfl)
    refine D_take 6 rfl (T_loada (ds := [.slice A2 L2.length c2']) rfl rfl rfl rfl (fun j v h => by simpa using h)) ?_ rfl rfl (by kernel_rfl) (by kernel_rfl)
    refine D_take 7 rfl (pev_ok rfl) ?_ rfl rfl (by kernel_rfl) (by kernel_rfl)
    refine D_take 8 rfl (pev_ok rfl) ?_ rfl rfl (by kernel_rfl) (by kernel_rfl)
    refine D_take 9 rfl (T_ixN rfl rfl rfl rfl rfl rfl hne6 hjl) ?_ rfl rfl (by kernel_rfl) (by kernel_rfl)
    refine D_take 10 rfl (T_ldr rfl rfl rfl (Srd.row (n := l.length) (c := c6)) (by omega) hat) ?_ rfl rfl (by kernel_rfl) (by kernel_rfl)
    refine D_take 12 rfl (T_loada (ds := [.slice A3 L3.length c3']) rfl rfl rfl rfl (fun j v h => by simpa using h)) ?_ rfl rfl (by kernel_rfl) (by kernel_rfl)
    refine D_take 13 rfl (pev_ok rfl) ?_ rfl rfl (by kernel_rfl) (by kernel_rfl)
    refine D_take 14 rfl (pev_ok rfl) ?_ rfl rfl (by kernel_rfl) (by kernel_rfl)
    refine D_take 15 rfl (T_ixN rfl rfl rfl rfl rfl rfl hne6 hjl) ?_ rfl rfl (by kernel_rfl) (by kernel_rfl)
    refine D_take 16 rfl (T_ldr rfl rfl rfl (Srd.row (n := l.length) (c := c6)) (by omega) hat) ?_ rfl rfl (by kernel_rfl) (by kernel_rfl)
    refine D_node #[true, true, true, true, true, true, true, true, true, true, true, true, true, true, true, true, true, true, true, true, true, false, false, false] (fun x : Nat × Nat × Nat => [(12, .pointer (some ⟨x.2.2, 0, none⟩)), (11, .pointer (some ⟨x.2.1, 0, none⟩)), (10, .pointer (some ⟨x.1, 0, none⟩)), (40, .agg (sdc (sideOf L3 p)).toArray), (34, .agg (sdc (sideOf L2 p)).toArray), (28, .agg (sdc (sideOf L1 p)).toArray), (23, .agg #[.slice A1 L1.length c1']), (29, .agg #[.slice A2 L2.length c2']), (35, .agg #[.slice A3 L3.length c3']), (27, sv p), (33, sv p), (39, sv p), (3, .pointer (some ⟨b1, 0, none⟩)), (4, .pointer (some ⟨b2, 0, none⟩)), (5, .pointer (some ⟨b3, 0, none⟩)), (7, .slice A8 O.length c8), (8, .slice A6 l.length c6), (9, .int .i64 (j : Int))]) (fun x : Nat × Nat × Nat => [pt x.2.2 50 (sdc default), pt x.2.1 50 (sdc default), pt x.1 50 (sdc default), row 52 7 A8 O.length c8 (cellsL cnc O), row 9 1 A6 l.length c6 (l.map sv), pt b3 24 [.slice A3 L3.length c3'], pt b2 24 [.slice A2 L2.length c2'], pt b1 24 [.slice A1 L1.length c1']]) (fun nd0 => ?_) (fun x => ?_)
    refine D_nodeR #[true, true, true, true, true, true, true, true, true, true, true, true, true, true, true, true, true, true, true, true, false, false, false, false] (fun x : Nat × Nat => [(11, .pointer (some ⟨x.2, 0, none⟩)), (10, .pointer (some ⟨x.1, 0, none⟩)), (40, .agg (sdc (sideOf L3 p)).toArray), (34, .agg (sdc (sideOf L2 p)).toArray), (28, .agg (sdc (sideOf L1 p)).toArray), (23, .agg #[.slice A1 L1.length c1']), (29, .agg #[.slice A2 L2.length c2']), (35, .agg #[.slice A3 L3.length c3']), (27, sv p), (33, sv p), (39, sv p), (3, .pointer (some ⟨b1, 0, none⟩)), (4, .pointer (some ⟨b2, 0, none⟩)), (5, .pointer (some ⟨b3, 0, none⟩)), (7, .slice A8 O.length c8), (8, .slice A6 l.length c6), (9, .int .i64 (j : Int))]) (fun x : Nat × Nat => [pt x.2 50 (sdc default), pt x.1 50 (sdc default), row 52 7 A8 O.length c8 (cellsL cnc O), row 9 1 A6 l.length c6 (l.map sv), pt b3 24 [.slice A3 L3.length c3'], pt b2 24 [.slice A2 L2.length c2'], pt b1 24 [.slice A1 L1.length c1']]) (fun x => ?_) (fun nd1 => ?_)
    · skip
      obtain ⟨b10, b11⟩ := x
      try dsimp only
      refine D_one 20 rfl (E_alloca rfl sd_zero) ?_ rfl rfl (by kernel_rfl)
      rintro _ _ ⟨b12, rfl, rfl⟩
      refine Nx_same sub_st ?_
      have h := nd0 (b10, b11, b12)
      try dsimp only at h
      exact D_at h (by repeat first | exact Sub.nil | refine Sub.cons rfl ?_) sub_st (by kernel_rfl)
    refine D_nodeR #[true, true, true, true, true, true, true, true, true, true, true, true, true, true, true, true, true, true, true, false, true, false, false, false] (fun x : Nat × Nat => [(12, .pointer (some ⟨x.2, 0, none⟩)), (10, .pointer (some ⟨x.1, 0, none⟩)), (40, .agg (sdc (sideOf L3 p)).toArray), (34, .agg (sdc (sideOf L2 p)).toArray), (28, .agg (sdc (sideOf L1 p)).toArray), (23, .agg #[.slice A1 L1.length c1']), (29, .agg #[.slice A2 L2.length c2']), (35, .agg #[.slice A3 L3.length c3']), (27, sv p), (33, sv p), (39, sv p), (3, .pointer (some ⟨b1, 0, none⟩)), (4, .pointer (some ⟨b2, 0, none⟩)), (5, .pointer (some ⟨b3, 0, none⟩)), (7, .slice A8 O.length c8), (8, .slice A6 l.length c6), (9, .int .i64 (j : Int))]) (fun x : Nat × Nat => [pt x.2 50 (sdc default), pt x.1 50 (sdc default), row 52 7 A8 O.length c8 (cellsL cnc O), row 9 1 A6 l.length c6 (l.map sv), pt b3 24 [.slice A3 L3.length c3'], pt b2 24 [.slice A2 L2.length c2'], pt b1 24 [.slice A1 L1.length c1']]) (fun x => ?_) (fun nd2 => ?_)
    · skip
      obtain ⟨b10, b12⟩ := x
      try dsimp only
      refine D_one 19 rfl (E_alloca rfl sd_zero) ?_ rfl rfl (by kernel_rfl)
      rintro _ _ ⟨b11, rfl, rfl⟩
      refine Nx_same sub_st ?_
      have h := nd0 (b10, b11, b12)
      try dsimp only at h
      exact D_at h (by repeat first | exact Sub.nil | refine Sub.cons rfl ?_) sub_st (by kernel_rfl)
    refine D_nodeR #[true, true, true, true, true, true, true, true, true, true, true, true, true, true, true, true, true, true, false, true, true, false, false, false] (fun x : Nat × Nat => [(12, .pointer (some ⟨x.2, 0, none⟩)), (11, .pointer (some ⟨x.1, 0, none⟩)), (40, .agg (sdc (sideOf L3 p)).toArray), (34, .agg (sdc (sideOf L2 p)).toArray), (28, .agg (sdc (sideOf L1 p)).toArray), (23, .agg #[.slice A1 L1.length c1']), (29, .agg #[.slice A2 L2.length c2']), (35, .agg #[.slice A3 L3.length c3']), (27, sv p), (33, sv p), (39, sv p), (3, .pointer (some ⟨b1, 0, none⟩)), (4, .pointer (some ⟨b2, 0, none⟩)), (5, .pointer (some ⟨b3, 0, none⟩)), (7, .slice A8 O.length c8), (8, .slice A6 l.length c6), (9, .int .i64 (j : Int))]) (fun x : Nat × Nat => [pt x.2 50 (sdc default), pt x.1 50 (sdc default), row 52 7 A8 O.length c8 (cellsL cnc O), row 9 1 A6 l.length c6 (l.map sv), pt b3 24 [.slice A3 L3.length c3'], pt b2 24 [.slice A2 L2.length c2'], pt b1 24 [.slice A1 L1.length c1']]) (fun x => ?_) (fun nd3 => ?_)
    · skip
      obtain ⟨b11, b12⟩ := x
      try dsimp only
      refine D_one 18 rfl (E_alloca rfl sd_zero) ?_ rfl rfl (by kernel_rfl)
      rintro _ _ ⟨b10, rfl, rfl⟩
      refine Nx_same sub_st ?_
      have h := nd0 (b10, b11, b12)
      try dsimp only at h
      exact D_at h (by repeat first | exact Sub.nil | refine Sub.cons rfl ?_) sub_st (by kernel_rfl)
    refine D_nodeR #[true, true, true, true, true, true, true, true, true, true, true, true, true, true, true, true, true, false, true, true, true, false, false, false] (fun x : Nat × Nat × Nat => [(12, .pointer (some ⟨x.2.2, 0, none⟩)), (11, .pointer (some ⟨x.2.1, 0, none⟩)), (10, .pointer (some ⟨x.1, 0, none⟩)), (34, .agg (sdc (sideOf L2 p)).toArray), (28, .agg (sdc (sideOf L1 p)).toArray), (23, .agg #[.slice A1 L1.length c1']), (29, .agg #[.slice A2 L2.length c2']), (35, .agg #[.slice A3 L3.length c3']), (27, sv p), (33, sv p), (39, sv p), (3, .pointer (some ⟨b1, 0, none⟩)), (4, .pointer (some ⟨b2, 0, none⟩)), (5, .pointer (some ⟨b3, 0, none⟩)), (7, .slice A8 O.length c8), (8, .slice A6 l.length c6), (9, .int .i64 (j : Int))]) (fun x : Nat × Nat × Nat => [pt x.2.2 50 (sdc default), pt x.2.1 50 (sdc default), pt x.1 50 (sdc default), row 52 7 A8 O.length c8 (cellsL cnc O), row 9 1 A6 l.length c6 (l.map sv), pt b3 24 [.slice A3 L3.length c3'], pt b2 24 [.slice A2 L2.length c2'], pt b1 24 [.slice A1 L1.length c1']]) (fun x => ?_) (fun nd4 => ?_)
    · skip
      obtain ⟨b10, b11, b12⟩ := x
      try dsimp only
      refine D_one 17 rfl (E_hv0 (f := 48) ⟨_, Try.func48, rfl, by kernel_rfl⟩ (fun w hS => rside_any w A3 L3.length c3' L3 p ((Srd.old h3 (fun k _ => noOwns k)).rd w hS) (by omega)) rfl rfl (fun _ => rfl)) ?_ rfl rfl (by kernel_rfl)
      rintro _ _ ⟨_, rfl, _, rfl⟩
      refine Nx_same sub_st ?_
      have h := nd0 (b10, b11, b12)
      try dsimp only at h
      exact D_at h (by repeat first | exact Sub.nil | refine Sub.cons rfl ?_) sub_st (by kernel_rfl)
    refine D_nodeR #[true, true, true, true, true, true, true, true, true, true, true, true, true, true, true, true, true, true, true, false, false, false, false, false] (fun x : Nat => [(10, .pointer (some ⟨x, 0, none⟩)), (40, .agg (sdc (sideOf L3 p)).toArray), (34, .agg (sdc (sideOf L2 p)).toArray), (28, .agg (sdc (sideOf L1 p)).toArray), (23, .agg #[.slice A1 L1.length c1']), (29, .agg #[.slice A2 L2.length c2']), (35, .agg #[.slice A3 L3.length c3']), (27, sv p), (33, sv p), (39, sv p), (3, .pointer (some ⟨b1, 0, none⟩)), (4, .pointer (some ⟨b2, 0, none⟩)), (5, .pointer (some ⟨b3, 0, none⟩)), (7, .slice A8 O.length c8), (8, .slice A6 l.length c6), (9, .int .i64 (j : Int))]) (fun x : Nat => [pt x 50 (sdc default), row 52 7 A8 O.length c8 (cellsL cnc O), row 9 1 A6 l.length c6 (l.map sv), pt b3 24 [.slice A3 L3.length c3'], pt b2 24 [.slice A2 L2.length c2'], pt b1 24 [.slice A1 L1.length c1']]) (fun x => ?_) (fun nd5 => ?_)
    · skip
      revert x; intro b10
      try dsimp only
      refine D_two 19 20 (by decide) rfl rfl (E_alloca rfl sd_zero) (E_alloca rfl sd_zero) ?_ ?_ rfl rfl rfl rfl (by kernel_rfl)
      · rintro _ _ ⟨b11, rfl, rfl⟩
        refine Nx_same sub_st ?_
        have h := nd1 (b10, b11)
        try dsimp only at h
        exact D_at h (by repeat first | exact Sub.nil | refine Sub.cons rfl ?_) sub_st (by kernel_rfl)
      · rintro _ _ ⟨b12, rfl, rfl⟩
        refine Nx_same sub_st ?_
        have h := nd2 (b10, b12)
        try dsimp only at h
        exact D_at h (by repeat first | exact Sub.nil | refine Sub.cons rfl ?_) sub_st (by kernel_rfl)
    refine D_nodeR #[true, true, true, true, true, true, true, true, true, true, true, true, true, true, true, true, true, true, false, true, false, false, false, false] (fun x : Nat => [(11, .pointer (some ⟨x, 0, none⟩)), (40, .agg (sdc (sideOf L3 p)).toArray), (34, .agg (sdc (sideOf L2 p)).toArray), (28, .agg (sdc (sideOf L1 p)).toArray), (23, .agg #[.slice A1 L1.length c1']), (29, .agg #[.slice A2 L2.length c2']), (35, .agg #[.slice A3 L3.length c3']), (27, sv p), (33, sv p), (39, sv p), (3, .pointer (some ⟨b1, 0, none⟩)), (4, .pointer (some ⟨b2, 0, none⟩)), (5, .pointer (some ⟨b3, 0, none⟩)), (7, .slice A8 O.length c8), (8, .slice A6 l.length c6), (9, .int .i64 (j : Int))]) (fun x : Nat => [pt x 50 (sdc default), row 52 7 A8 O.length c8 (cellsL cnc O), row 9 1 A6 l.length c6 (l.map sv), pt b3 24 [.slice A3 L3.length c3'], pt b2 24 [.slice A2 L2.length c2'], pt b1 24 [.slice A1 L1.length c1']]) (fun x => ?_) (fun nd6 => ?_)
    · skip
      revert x; intro b11
      try dsimp only
      refine D_two 18 20 (by decide) rfl rfl (E_alloca rfl sd_zero) (E_alloca rfl sd_zero) ?_ ?_ rfl rfl rfl rfl (by kernel_rfl)
      · rintro _ _ ⟨b10, rfl, rfl⟩
        refine Nx_same sub_st ?_
        have h := nd1 (b10, b11)
        try dsimp only at h
        exact D_at h (by repeat first | exact Sub.nil | refine Sub.cons rfl ?_) sub_st (by kernel_rfl)
      · rintro _ _ ⟨b12, rfl, rfl⟩
        refine Nx_same sub_st ?_
        have h := nd3 (b11, b12)
        try dsimp only at h
        exact D_at h (by repeat first | exact Sub.nil | refine Sub.cons rfl ?_) sub_st (by kernel_rfl)
    refine D_nodeR #[true, true, true, true, true, true, true, true, true, true, true, true, true, true, true, true, true, true, false, false, true, false, false, false] (fun x : Nat => [(12, .pointer (some ⟨x, 0, none⟩)), (40, .agg (sdc (sideOf L3 p)).toArray), (34, .agg (sdc (sideOf L2 p)).toArray), (28, .agg (sdc (sideOf L1 p)).toArray), (23, .agg #[.slice A1 L1.length c1']), (29, .agg #[.slice A2 L2.length c2']), (35, .agg #[.slice A3 L3.length c3']), (27, sv p), (33, sv p), (39, sv p), (3, .pointer (some ⟨b1, 0, none⟩)), (4, .pointer (some ⟨b2, 0, none⟩)), (5, .pointer (some ⟨b3, 0, none⟩)), (7, .slice A8 O.length c8), (8, .slice A6 l.length c6), (9, .int .i64 (j : Int))]) (fun x : Nat => [pt x 50 (sdc default), row 52 7 A8 O.length c8 (cellsL cnc O), row 9 1 A6 l.length c6 (l.map sv), pt b3 24 [.slice A3 L3.length c3'], pt b2 24 [.slice A2 L2.length c2'], pt b1 24 [.slice A1 L1.length c1']]) (fun x => ?_) (fun nd7 => ?_)
    · skip
      revert x; intro b12
      try dsimp only
      refine D_two 18 19 (by decide) rfl rfl (E_alloca rfl sd_zero) (E_alloca rfl sd_zero) ?_ ?_ rfl rfl rfl rfl (by kernel_rfl)
      · rintro _ _ ⟨b10, rfl, rfl⟩
        refine Nx_same sub_st ?_
        have h := nd2 (b10, b12)
        try dsimp only at h
        exact D_at h (by repeat first | exact Sub.nil | refine Sub.cons rfl ?_) sub_st (by kernel_rfl)
      · rintro _ _ ⟨b11, rfl, rfl⟩
        refine Nx_same sub_st ?_
        have h := nd3 (b11, b12)
        try dsimp only at h
        exact D_at h (by repeat first | exact Sub.nil | refine Sub.cons rfl ?_) sub_st (by kernel_rfl)
    refine D_nodeR #[true, true, true, true, true, true, true, true, true, true, true, true, true, true, true, true, true, false, true, true, false, false, false, false] (fun x : Nat × Nat => [(11, .pointer (some ⟨x.2, 0, none⟩)), (10, .pointer (some ⟨x.1, 0, none⟩)), (34, .agg (sdc (sideOf L2 p)).toArray), (28, .agg (sdc (sideOf L1 p)).toArray), (23, .agg #[.slice A1 L1.length c1']), (29, .agg #[.slice A2 L2.length c2']), (35, .agg #[.slice A3 L3.length c3']), (27, sv p), (33, sv p), (39, sv p), (3, .pointer (some ⟨b1, 0, none⟩)), (4, .pointer (some ⟨b2, 0, none⟩)), (5, .pointer (some ⟨b3, 0, none⟩)), (7, .slice A8 O.length c8), (8, .slice A6 l.length c6), (9, .int .i64 (j : Int))]) (fun x : Nat × Nat => [pt x.2 50 (sdc default), pt x.1 50 (sdc default), row 52 7 A8 O.length c8 (cellsL cnc O), row 9 1 A6 l.length c6 (l.map sv), pt b3 24 [.slice A3 L3.length c3'], pt b2 24 [.slice A2 L2.length c2'], pt b1 24 [.slice A1 L1.length c1']]) (fun x => ?_) (fun nd8 => ?_)
    · skip
      obtain ⟨b10, b11⟩ := x
      try dsimp only
      refine D_two 17 20 (by decide) rfl rfl (E_hv0 (f := 48) ⟨_, Try.func48, rfl, by kernel_rfl⟩ (fun w hS => rside_any w A3 L3.length c3' L3 p ((Srd.old h3 (fun k _ => noOwns k)).rd w hS) (by omega)) rfl rfl (fun _ => rfl)) (E_alloca rfl sd_zero) ?_ ?_ rfl rfl rfl rfl (by kernel_rfl)
      · rintro _ _ ⟨_, rfl, _, rfl⟩
        refine Nx_same sub_st ?_
        have h := nd1 (b10, b11)
        try dsimp only at h
        exact D_at h (by repeat first | exact Sub.nil | refine Sub.cons rfl ?_) sub_st (by kernel_rfl)
      · rintro _ _ ⟨b12, rfl, rfl⟩
        refine Nx_same sub_st ?_
        have h := nd4 (b10, b11, b12)
        try dsimp only at h
        exact D_at h (by repeat first | exact Sub.nil | refine Sub.cons rfl ?_) sub_st (by kernel_rfl)
    refine D_nodeR #[true, true, true, true, true, true, true, true, true, true, true, true, true, true, true, true, true, false, true, false, true, false, false, false] (fun x : Nat × Nat => [(12, .pointer (some ⟨x.2, 0, none⟩)), (10, .pointer (some ⟨x.1, 0, none⟩)), (34, .agg (sdc (sideOf L2 p)).toArray), (28, .agg (sdc (sideOf L1 p)).toArray), (23, .agg #[.slice A1 L1.length c1']), (29, .agg #[.slice A2 L2.length c2']), (35, .agg #[.slice A3 L3.length c3']), (27, sv p), (33, sv p), (39, sv p), (3, .pointer (some ⟨b1, 0, none⟩)), (4, .pointer (some ⟨b2, 0, none⟩)), (5, .pointer (some ⟨b3, 0, none⟩)), (7, .slice A8 O.length c8), (8, .slice A6 l.length c6), (9, .int .i64 (j : Int))]) (fun x : Nat × Nat => [pt x.2 50 (sdc default), pt x.1 50 (sdc default), row 52 7 A8 O.length c8 (cellsL cnc O), row 9 1 A6 l.length c6 (l.map sv), pt b3 24 [.slice A3 L3.length c3'], pt b2 24 [.slice A2 L2.length c2'], pt b1 24 [.slice A1 L1.length c1']]) (fun x => ?_) (fun nd9 => ?_)
    · skip
      obtain ⟨b10, b12⟩ := x
      try dsimp only
      refine D_two 17 19 (by decide) rfl rfl (E_hv0 (f := 48) ⟨_, Try.func48, rfl, by kernel_rfl⟩ (fun w hS => rside_any w A3 L3.length c3' L3 p ((Srd.old h3 (fun k _ => noOwns k)).rd w hS) (by omega)) rfl rfl (fun _ => rfl)) (E_alloca rfl sd_zero) ?_ ?_ rfl rfl rfl rfl (by kernel_rfl)
      · rintro _ _ ⟨_, rfl, _, rfl⟩
        refine Nx_same sub_st ?_
        have h := nd2 (b10, b12)
        try dsimp only at h
        exact D_at h (by repeat first | exact Sub.nil | refine Sub.cons rfl ?_) sub_st (by kernel_rfl)
      · rintro _ _ ⟨b11, rfl, rfl⟩
        refine Nx_same sub_st ?_
        have h := nd4 (b10, b11, b12)
        try dsimp only at h
        exact D_at h (by repeat first | exact Sub.nil | refine Sub.cons rfl ?_) sub_st (by kernel_rfl)
    refine D_nodeR #[true, true, true, true, true, true, true, true, true, true, true, true, true, true, true, true, true, false, false, true, true, false, false, false] (fun x : Nat × Nat => [(12, .pointer (some ⟨x.2, 0, none⟩)), (11, .pointer (some ⟨x.1, 0, none⟩)), (34, .agg (sdc (sideOf L2 p)).toArray), (28, .agg (sdc (sideOf L1 p)).toArray), (23, .agg #[.slice A1 L1.length c1']), (29, .agg #[.slice A2 L2.length c2']), (35, .agg #[.slice A3 L3.length c3']), (27, sv p), (33, sv p), (39, sv p), (3, .pointer (some ⟨b1, 0, none⟩)), (4, .pointer (some ⟨b2, 0, none⟩)), (5, .pointer (some ⟨b3, 0, none⟩)), (7, .slice A8 O.length c8), (8, .slice A6 l.length c6), (9, .int .i64 (j : Int))]) (fun x : Nat × Nat => [pt x.2 50 (sdc default), pt x.1 50 (sdc default), row 52 7 A8 O.length c8 (cellsL cnc O), row 9 1 A6 l.length c6 (l.map sv), pt b3 24 [.slice A3 L3.length c3'], pt b2 24 [.slice A2 L2.length c2'], pt b1 24 [.slice A1 L1.length c1']]) (fun x => ?_) (fun nd10 => ?_)
    · skip
      obtain ⟨b11, b12⟩ := x
      try dsimp only
      refine D_two 17 18 (by decide) rfl rfl (E_hv0 (f := 48) ⟨_, Try.func48, rfl, by kernel_rfl⟩ (fun w hS => rside_any w A3 L3.length c3' L3 p ((Srd.old h3 (fun k _ => noOwns k)).rd w hS) (by omega)) rfl rfl (fun _ => rfl)) (E_alloca rfl sd_zero) ?_ ?_ rfl rfl rfl rfl (by kernel_rfl)
      · rintro _ _ ⟨_, rfl, _, rfl⟩
        refine Nx_same sub_st ?_
        have h := nd3 (b11, b12)
        try dsimp only at h
        exact D_at h (by repeat first | exact Sub.nil | refine Sub.cons rfl ?_) sub_st (by kernel_rfl)
      · rintro _ _ ⟨b10, rfl, rfl⟩
        refine Nx_same sub_st ?_
        have h := nd4 (b10, b11, b12)
        try dsimp only at h
        exact D_at h (by repeat first | exact Sub.nil | refine Sub.cons rfl ?_) sub_st (by kernel_rfl)
    refine D_nodeR #[true, true, true, true, true, true, true, true, true, true, true, false, true, true, true, true, true, false, true, true, true, false, false, false] (fun x : Nat × Nat × Nat => [(12, .pointer (some ⟨x.2.2, 0, none⟩)), (11, .pointer (some ⟨x.2.1, 0, none⟩)), (10, .pointer (some ⟨x.1, 0, none⟩)), (28, .agg (sdc (sideOf L1 p)).toArray), (23, .agg #[.slice A1 L1.length c1']), (29, .agg #[.slice A2 L2.length c2']), (35, .agg #[.slice A3 L3.length c3']), (27, sv p), (33, sv p), (39, sv p), (3, .pointer (some ⟨b1, 0, none⟩)), (4, .pointer (some ⟨b2, 0, none⟩)), (5, .pointer (some ⟨b3, 0, none⟩)), (7, .slice A8 O.length c8), (8, .slice A6 l.length c6), (9, .int .i64 (j : Int))]) (fun x : Nat × Nat × Nat => [pt x.2.2 50 (sdc default), pt x.2.1 50 (sdc default), pt x.1 50 (sdc default), row 52 7 A8 O.length c8 (cellsL cnc O), row 9 1 A6 l.length c6 (l.map sv), pt b3 24 [.slice A3 L3.length c3'], pt b2 24 [.slice A2 L2.length c2'], pt b1 24 [.slice A1 L1.length c1']]) (fun x => ?_) (fun nd11 => ?_)
    · skip
      obtain ⟨b10, b11, b12⟩ := x
      try dsimp only
      refine D_one 11 rfl (E_hv0 (f := 48) ⟨_, Try.func48, rfl, by kernel_rfl⟩ (fun w hS => rside_any w A2 L2.length c2' L2 p ((Srd.old h2 (fun k _ => noOwns k)).rd w hS) (by omega)) rfl rfl (fun _ => rfl)) ?_ rfl rfl (by kernel_rfl)
      rintro _ _ ⟨_, rfl, _, rfl⟩
      refine Nx_same sub_st ?_
      have h := nd4 (b10, b11, b12)
      try dsimp only at h
      exact D_at h (by repeat first | exact Sub.nil | refine Sub.cons rfl ?_) sub_st (by kernel_rfl)
    refine D_nodeR #[true, true, true, true, true, true, true, true, true, true, true, true, true, true, true, true, true, true, false, false, false, false, false, false] (fun _ : Unit => [(40, .agg (sdc (sideOf L3 p)).toArray), (34, .agg (sdc (sideOf L2 p)).toArray), (28, .agg (sdc (sideOf L1 p)).toArray), (23, .agg #[.slice A1 L1.length c1']), (29, .agg #[.slice A2 L2.length c2']), (35, .agg #[.slice A3 L3.length c3']), (27, sv p), (33, sv p), (39, sv p), (3, .pointer (some ⟨b1, 0, none⟩)), (4, .pointer (some ⟨b2, 0, none⟩)), (5, .pointer (some ⟨b3, 0, none⟩)), (7, .slice A8 O.length c8), (8, .slice A6 l.length c6), (9, .int .i64 (j : Int))]) (fun _ : Unit => [row 52 7 A8 O.length c8 (cellsL cnc O), row 9 1 A6 l.length c6 (l.map sv), pt b3 24 [.slice A3 L3.length c3'], pt b2 24 [.slice A2 L2.length c2'], pt b1 24 [.slice A1 L1.length c1']]) (fun x => ?_) (fun nd12 => ?_)
    · skip
      obtain ⟨⟩ := x
      try dsimp only
      refine D_three 18 19 20 rfl rfl rfl (E_alloca rfl sd_zero) (E_alloca rfl sd_zero) (E_alloca rfl sd_zero) ?_ ?_ ?_ rfl rfl rfl rfl rfl rfl (by kernel_rfl)
      · rintro _ _ ⟨b10, rfl, rfl⟩
        refine Nx_same sub_st ?_
        have h := nd5 (b10)
        try dsimp only at h
        exact D_at h (by repeat first | exact Sub.nil | refine Sub.cons rfl ?_) sub_st (by kernel_rfl)
      · rintro _ _ ⟨b11, rfl, rfl⟩
        refine Nx_same sub_st ?_
        have h := nd6 (b11)
        try dsimp only at h
        exact D_at h (by repeat first | exact Sub.nil | refine Sub.cons rfl ?_) sub_st (by kernel_rfl)
      · rintro _ _ ⟨b12, rfl, rfl⟩
        refine Nx_same sub_st ?_
        have h := nd7 (b12)
        try dsimp only at h
        exact D_at h (by repeat first | exact Sub.nil | refine Sub.cons rfl ?_) sub_st (by kernel_rfl)
    refine D_nodeR #[true, true, true, true, true, true, true, true, true, true, true, true, true, true, true, true, true, false, true, false, false, false, false, false] (fun x : Nat => [(10, .pointer (some ⟨x, 0, none⟩)), (34, .agg (sdc (sideOf L2 p)).toArray), (28, .agg (sdc (sideOf L1 p)).toArray), (23, .agg #[.slice A1 L1.length c1']), (29, .agg #[.slice A2 L2.length c2']), (35, .agg #[.slice A3 L3.length c3']), (27, sv p), (33, sv p), (39, sv p), (3, .pointer (some ⟨b1, 0, none⟩)), (4, .pointer (some ⟨b2, 0, none⟩)), (5, .pointer (some ⟨b3, 0, none⟩)), (7, .slice A8 O.length c8), (8, .slice A6 l.length c6), (9, .int .i64 (j : Int))]) (fun x : Nat => [pt x 50 (sdc default), row 52 7 A8 O.length c8 (cellsL cnc O), row 9 1 A6 l.length c6 (l.map sv), pt b3 24 [.slice A3 L3.length c3'], pt b2 24 [.slice A2 L2.length c2'], pt b1 24 [.slice A1 L1.length c1']]) (fun x => ?_) (fun nd13 => ?_)
    · skip
      revert x; intro b10
      try dsimp only
      refine D_three 17 19 20 rfl rfl rfl (E_hv0 (f := 48) ⟨_, Try.func48, rfl, by kernel_rfl⟩ (fun w hS => rside_any w A3 L3.length c3' L3 p ((Srd.old h3 (fun k _ => noOwns k)).rd w hS) (by omega)) rfl rfl (fun _ => rfl)) (E_alloca rfl sd_zero) (E_alloca rfl sd_zero) ?_ ?_ ?_ rfl rfl rfl rfl rfl rfl (by kernel_rfl)
      · rintro _ _ ⟨_, rfl, _, rfl⟩
        refine Nx_same sub_st ?_
        have h := nd5 (b10)
        try dsimp only at h
        exact D_at h (by repeat first | exact Sub.nil | refine Sub.cons rfl ?_) sub_st (by kernel_rfl)
      · rintro _ _ ⟨b11, rfl, rfl⟩
        refine Nx_same sub_st ?_
        have h := nd8 (b10, b11)
        try dsimp only at h
        exact D_at h (by repeat first | exact Sub.nil | refine Sub.cons rfl ?_) sub_st (by kernel_rfl)
      · rintro _ _ ⟨b12, rfl, rfl⟩
        refine Nx_same sub_st ?_
        have h := nd9 (b10, b12)
        try dsimp only at h
        exact D_at h (by repeat first | exact Sub.nil | refine Sub.cons rfl ?_) sub_st (by kernel_rfl)
    refine D_nodeR #[true, true, true, true, true, true, true, true, true, true, true, true, true, true, true, true, true, false, false, true, false, false, false, false] (fun x : Nat => [(11, .pointer (some ⟨x, 0, none⟩)), (34, .agg (sdc (sideOf L2 p)).toArray), (28, .agg (sdc (sideOf L1 p)).toArray), (23, .agg #[.slice A1 L1.length c1']), (29, .agg #[.slice A2 L2.length c2']), (35, .agg #[.slice A3 L3.length c3']), (27, sv p), (33, sv p), (39, sv p), (3, .pointer (some ⟨b1, 0, none⟩)), (4, .pointer (some ⟨b2, 0, none⟩)), (5, .pointer (some ⟨b3, 0, none⟩)), (7, .slice A8 O.length c8), (8, .slice A6 l.length c6), (9, .int .i64 (j : Int))]) (fun x : Nat => [pt x 50 (sdc default), row 52 7 A8 O.length c8 (cellsL cnc O), row 9 1 A6 l.length c6 (l.map sv), pt b3 24 [.slice A3 L3.length c3'], pt b2 24 [.slice A2 L2.length c2'], pt b1 24 [.slice A1 L1.length c1']]) (fun x => ?_) (fun nd14 => ?_)
    · skip
      revert x; intro b11
      try dsimp only
      refine D_three 17 18 20 rfl rfl rfl (E_hv0 (f := 48) ⟨_, Try.func48, rfl, by kernel_rfl⟩ (fun w hS => rside_any w A3 L3.length c3' L3 p ((Srd.old h3 (fun k _ => noOwns k)).rd w hS) (by omega)) rfl rfl (fun _ => rfl)) (E_alloca rfl sd_zero) (E_alloca rfl sd_zero) ?_ ?_ ?_ rfl rfl rfl rfl rfl rfl (by kernel_rfl)
      · rintro _ _ ⟨_, rfl, _, rfl⟩
        refine Nx_same sub_st ?_
        have h := nd6 (b11)
        try dsimp only at h
        exact D_at h (by repeat first | exact Sub.nil | refine Sub.cons rfl ?_) sub_st (by kernel_rfl)
      · rintro _ _ ⟨b10, rfl, rfl⟩
        refine Nx_same sub_st ?_
        have h := nd8 (b10, b11)
        try dsimp only at h
        exact D_at h (by repeat first | exact Sub.nil | refine Sub.cons rfl ?_) sub_st (by kernel_rfl)
      · rintro _ _ ⟨b12, rfl, rfl⟩
        refine Nx_same sub_st ?_
        have h := nd10 (b11, b12)
        try dsimp only at h
        exact D_at h (by repeat first | exact Sub.nil | refine Sub.cons rfl ?_) sub_st (by kernel_rfl)
    refine D_nodeR #[true, true, true, true, true, true, true, true, true, true, true, true, true, true, true, true, true, false, false, false, true, false, false, false] (fun x : Nat => [(12, .pointer (some ⟨x, 0, none⟩)), (34, .agg (sdc (sideOf L2 p)).toArray), (28, .agg (sdc (sideOf L1 p)).toArray), (23, .agg #[.slice A1 L1.length c1']), (29, .agg #[.slice A2 L2.length c2']), (35, .agg #[.slice A3 L3.length c3']), (27, sv p), (33, sv p), (39, sv p), (3, .pointer (some ⟨b1, 0, none⟩)), (4, .pointer (some ⟨b2, 0, none⟩)), (5, .pointer (some ⟨b3, 0, none⟩)), (7, .slice A8 O.length c8), (8, .slice A6 l.length c6), (9, .int .i64 (j : Int))]) (fun x : Nat => [pt x 50 (sdc default), row 52 7 A8 O.length c8 (cellsL cnc O), row 9 1 A6 l.length c6 (l.map sv), pt b3 24 [.slice A3 L3.length c3'], pt b2 24 [.slice A2 L2.length c2'], pt b1 24 [.slice A1 L1.length c1']]) (fun x => ?_) (fun nd15 => ?_)
    · skip
      revert x; intro b12
      try dsimp only
      refine D_three 17 18 19 rfl rfl rfl (E_hv0 (f := 48) ⟨_, Try.func48, rfl, by kernel_rfl⟩ (fun w hS => rside_any w A3 L3.length c3' L3 p ((Srd.old h3 (fun k _ => noOwns k)).rd w hS) (by omega)) rfl rfl (fun _ => rfl)) (E_alloca rfl sd_zero) (E_alloca rfl sd_zero) ?_ ?_ ?_ rfl rfl rfl rfl rfl rfl (by kernel_rfl)
      · rintro _ _ ⟨_, rfl, _, rfl⟩
        refine Nx_same sub_st ?_
        have h := nd7 (b12)
        try dsimp only at h
        exact D_at h (by repeat first | exact Sub.nil | refine Sub.cons rfl ?_) sub_st (by kernel_rfl)
      · rintro _ _ ⟨b10, rfl, rfl⟩
        refine Nx_same sub_st ?_
        have h := nd9 (b10, b12)
        try dsimp only at h
        exact D_at h (by repeat first | exact Sub.nil | refine Sub.cons rfl ?_) sub_st (by kernel_rfl)
      · rintro _ _ ⟨b11, rfl, rfl⟩
        refine Nx_same sub_st ?_
        have h := nd10 (b11, b12)
        try dsimp only at h
        exact D_at h (by repeat first | exact Sub.nil | refine Sub.cons rfl ?_) sub_st (by kernel_rfl)
    refine D_nodeR #[true, true, true, true, true, true, true, true, true, true, true, false, true, true, true, true, true, false, true, true, false, false, false, false] (fun x : Nat × Nat => [(11, .pointer (some ⟨x.2, 0, none⟩)), (10, .pointer (some ⟨x.1, 0, none⟩)), (28, .agg (sdc (sideOf L1 p)).toArray), (23, .agg #[.slice A1 L1.length c1']), (29, .agg #[.slice A2 L2.length c2']), (35, .agg #[.slice A3 L3.length c3']), (27, sv p), (33, sv p), (39, sv p), (3, .pointer (some ⟨b1, 0, none⟩)), (4, .pointer (some ⟨b2, 0, none⟩)), (5, .pointer (some ⟨b3, 0, none⟩)), (7, .slice A8 O.length c8), (8, .slice A6 l.length c6), (9, .int .i64 (j : Int))]) (fun x : Nat × Nat => [pt x.2 50 (sdc default), pt x.1 50 (sdc default), row 52 7 A8 O.length c8 (cellsL cnc O), row 9 1 A6 l.length c6 (l.map sv), pt b3 24 [.slice A3 L3.length c3'], pt b2 24 [.slice A2 L2.length c2'], pt b1 24 [.slice A1 L1.length c1']]) (fun x => ?_) (fun nd16 => ?_)
    · skip
      obtain ⟨b10, b11⟩ := x
      try dsimp only
      refine D_two 11 20 (by decide) rfl rfl (E_hv0 (f := 48) ⟨_, Try.func48, rfl, by kernel_rfl⟩ (fun w hS => rside_any w A2 L2.length c2' L2 p ((Srd.old h2 (fun k _ => noOwns k)).rd w hS) (by omega)) rfl rfl (fun _ => rfl)) (E_alloca rfl sd_zero) ?_ ?_ rfl rfl rfl rfl (by kernel_rfl)
      · rintro _ _ ⟨_, rfl, _, rfl⟩
        refine Nx_same sub_st ?_
        have h := nd8 (b10, b11)
        try dsimp only at h
        exact D_at h (by repeat first | exact Sub.nil | refine Sub.cons rfl ?_) sub_st (by kernel_rfl)
      · rintro _ _ ⟨b12, rfl, rfl⟩
        refine Nx_same sub_st ?_
        have h := nd11 (b10, b11, b12)
        try dsimp only at h
        exact D_at h (by repeat first | exact Sub.nil | refine Sub.cons rfl ?_) sub_st (by kernel_rfl)
    refine D_nodeR #[true, true, true, true, true, true, true, true, true, true, true, false, true, true, true, true, true, false, true, false, true, false, false, false] (fun x : Nat × Nat => [(12, .pointer (some ⟨x.2, 0, none⟩)), (10, .pointer (some ⟨x.1, 0, none⟩)), (28, .agg (sdc (sideOf L1 p)).toArray), (23, .agg #[.slice A1 L1.length c1']), (29, .agg #[.slice A2 L2.length c2']), (35, .agg #[.slice A3 L3.length c3']), (27, sv p), (33, sv p), (39, sv p), (3, .pointer (some ⟨b1, 0, none⟩)), (4, .pointer (some ⟨b2, 0, none⟩)), (5, .pointer (some ⟨b3, 0, none⟩)), (7, .slice A8 O.length c8), (8, .slice A6 l.length c6), (9, .int .i64 (j : Int))]) (fun x : Nat × Nat => [pt x.2 50 (sdc default), pt x.1 50 (sdc default), row 52 7 A8 O.length c8 (cellsL cnc O), row 9 1 A6 l.length c6 (l.map sv), pt b3 24 [.slice A3 L3.length c3'], pt b2 24 [.slice A2 L2.length c2'], pt b1 24 [.slice A1 L1.length c1']]) (fun x => ?_) (fun nd17 => ?_)
    · skip
      obtain ⟨b10, b12⟩ := x
      try dsimp only
      refine D_two 11 19 (by decide) rfl rfl (E_hv0 (f := 48) ⟨_, Try.func48, rfl, by kernel_rfl⟩ (fun w hS => rside_any w A2 L2.length c2' L2 p ((Srd.old h2 (fun k _ => noOwns k)).rd w hS) (by omega)) rfl rfl (fun _ => rfl)) (E_alloca rfl sd_zero) ?_ ?_ rfl rfl rfl rfl (by kernel_rfl)
      · rintro _ _ ⟨_, rfl, _, rfl⟩
        refine Nx_same sub_st ?_
        have h := nd9 (b10, b12)
        try dsimp only at h
        exact D_at h (by repeat first | exact Sub.nil | refine Sub.cons rfl ?_) sub_st (by kernel_rfl)
      · rintro _ _ ⟨b11, rfl, rfl⟩
        refine Nx_same sub_st ?_
        have h := nd11 (b10, b11, b12)
        try dsimp only at h
        exact D_at h (by repeat first | exact Sub.nil | refine Sub.cons rfl ?_) sub_st (by kernel_rfl)
    refine D_nodeR #[true, true, true, true, true, true, true, true, true, true, true, false, true, true, true, true, true, false, false, true, true, false, false, false] (fun x : Nat × Nat => [(12, .pointer (some ⟨x.2, 0, none⟩)), (11, .pointer (some ⟨x.1, 0, none⟩)), (28, .agg (sdc (sideOf L1 p)).toArray), (23, .agg #[.slice A1 L1.length c1']), (29, .agg #[.slice A2 L2.length c2']), (35, .agg #[.slice A3 L3.length c3']), (27, sv p), (33, sv p), (39, sv p), (3, .pointer (some ⟨b1, 0, none⟩)), (4, .pointer (some ⟨b2, 0, none⟩)), (5, .pointer (some ⟨b3, 0, none⟩)), (7, .slice A8 O.length c8), (8, .slice A6 l.length c6), (9, .int .i64 (j : Int))]) (fun x : Nat × Nat => [pt x.2 50 (sdc default), pt x.1 50 (sdc default), row 52 7 A8 O.length c8 (cellsL cnc O), row 9 1 A6 l.length c6 (l.map sv), pt b3 24 [.slice A3 L3.length c3'], pt b2 24 [.slice A2 L2.length c2'], pt b1 24 [.slice A1 L1.length c1']]) (fun x => ?_) (fun nd18 => ?_)
    · skip
      obtain ⟨b11, b12⟩ := x
      try dsimp only
      refine D_two 11 18 (by decide) rfl rfl (E_hv0 (f := 48) ⟨_, Try.func48, rfl, by kernel_rfl⟩ (fun w hS => rside_any w A2 L2.length c2' L2 p ((Srd.old h2 (fun k _ => noOwns k)).rd w hS) (by omega)) rfl rfl (fun _ => rfl)) (E_alloca rfl sd_zero) ?_ ?_ rfl rfl rfl rfl (by kernel_rfl)
      · rintro _ _ ⟨_, rfl, _, rfl⟩
        refine Nx_same sub_st ?_
        have h := nd10 (b11, b12)
        try dsimp only at h
        exact D_at h (by repeat first | exact Sub.nil | refine Sub.cons rfl ?_) sub_st (by kernel_rfl)
      · rintro _ _ ⟨b10, rfl, rfl⟩
        refine Nx_same sub_st ?_
        have h := nd11 (b10, b11, b12)
        try dsimp only at h
        exact D_at h (by repeat first | exact Sub.nil | refine Sub.cons rfl ?_) sub_st (by kernel_rfl)
    refine D_nodeR #[true, true, true, true, true, false, true, true, true, true, true, false, true, true, true, true, true, false, true, true, true, false, false, false] (fun x : Nat × Nat × Nat => [(12, .pointer (some ⟨x.2.2, 0, none⟩)), (11, .pointer (some ⟨x.2.1, 0, none⟩)), (10, .pointer (some ⟨x.1, 0, none⟩)), (23, .agg #[.slice A1 L1.length c1']), (29, .agg #[.slice A2 L2.length c2']), (35, .agg #[.slice A3 L3.length c3']), (27, sv p), (33, sv p), (39, sv p), (3, .pointer (some ⟨b1, 0, none⟩)), (4, .pointer (some ⟨b2, 0, none⟩)), (5, .pointer (some ⟨b3, 0, none⟩)), (7, .slice A8 O.length c8), (8, .slice A6 l.length c6), (9, .int .i64 (j : Int))]) (fun x : Nat × Nat × Nat => [pt x.2.2 50 (sdc default), pt x.2.1 50 (sdc default), pt x.1 50 (sdc default), row 52 7 A8 O.length c8 (cellsL cnc O), row 9 1 A6 l.length c6 (l.map sv), pt b3 24 [.slice A3 L3.length c3'], pt b2 24 [.slice A2 L2.length c2'], pt b1 24 [.slice A1 L1.length c1']]) (fun x => ?_) (fun nd19 => ?_)
    · skip
      obtain ⟨b10, b11, b12⟩ := x
      try dsimp only
      refine D_one 5 rfl (E_hv0 (f := 48) ⟨_, Try.func48, rfl, by kernel_rfl⟩ (fun w hS => rside_any w A1 L1.length c1' L1 p ((Srd.old h1 (fun k _ => noOwns k)).rd w hS) (by omega)) rfl rfl (fun _ => rfl)) ?_ rfl rfl (by kernel_rfl)
      rintro _ _ ⟨_, rfl, _, rfl⟩
      refine Nx_same sub_st ?_
      have h := nd11 (b10, b11, b12)
      try dsimp only at h
      exact D_at h (by repeat first | exact Sub.nil | refine Sub.cons rfl ?_) sub_st (by kernel_rfl)
    refine D_nodeR #[true, true, true, true, true, true, true, true, true, true, true, true, true, true, true, true, true, false, false, false, false, false, false, false] (fun _ : Unit => [(34, .agg (sdc (sideOf L2 p)).toArray), (28, .agg (sdc (sideOf L1 p)).toArray), (23, .agg #[.slice A1 L1.length c1']), (29, .agg #[.slice A2 L2.length c2']), (35, .agg #[.slice A3 L3.length c3']), (27, sv p), (33, sv p), (39, sv p), (3, .pointer (some ⟨b1, 0, none⟩)), (4, .pointer (some ⟨b2, 0, none⟩)), (5, .pointer (some ⟨b3, 0, none⟩)), (7, .slice A8 O.length c8), (8, .slice A6 l.length c6), (9, .int .i64 (j : Int))]) (fun _ : Unit => [row 52 7 A8 O.length c8 (cellsL cnc O), row 9 1 A6 l.length c6 (l.map sv), pt b3 24 [.slice A3 L3.length c3'], pt b2 24 [.slice A2 L2.length c2'], pt b1 24 [.slice A1 L1.length c1']]) (fun x => ?_) (fun nd20 => ?_)
    · skip
      obtain ⟨⟩ := x
      try dsimp only
      refine D_four 17 18 19 20 rfl rfl rfl rfl (E_hv0 (f := 48) ⟨_, Try.func48, rfl, by kernel_rfl⟩ (fun w hS => rside_any w A3 L3.length c3' L3 p ((Srd.old h3 (fun k _ => noOwns k)).rd w hS) (by omega)) rfl rfl (fun _ => rfl)) (E_alloca rfl sd_zero) (E_alloca rfl sd_zero) (E_alloca rfl sd_zero) ?_ ?_ ?_ ?_ rfl rfl rfl rfl rfl rfl rfl rfl (by kernel_rfl)
      · rintro _ _ ⟨_, rfl, _, rfl⟩
        refine Nx_same sub_st ?_
        have h := nd12 ()
        try dsimp only at h
        exact D_at h (by repeat first | exact Sub.nil | refine Sub.cons rfl ?_) sub_st (by kernel_rfl)
      · rintro _ _ ⟨b10, rfl, rfl⟩
        refine Nx_same sub_st ?_
        have h := nd13 (b10)
        try dsimp only at h
        exact D_at h (by repeat first | exact Sub.nil | refine Sub.cons rfl ?_) sub_st (by kernel_rfl)
      · rintro _ _ ⟨b11, rfl, rfl⟩
        refine Nx_same sub_st ?_
        have h := nd14 (b11)
        try dsimp only at h
        exact D_at h (by repeat first | exact Sub.nil | refine Sub.cons rfl ?_) sub_st (by kernel_rfl)
      · rintro _ _ ⟨b12, rfl, rfl⟩
        refine Nx_same sub_st ?_
        have h := nd15 (b12)
        try dsimp only at h
        exact D_at h (by repeat first | exact Sub.nil | refine Sub.cons rfl ?_) sub_st (by kernel_rfl)
    refine D_nodeR #[true, true, true, true, true, true, true, true, true, true, true, false, true, true, true, true, true, false, true, false, false, false, false, false] (fun x : Nat => [(10, .pointer (some ⟨x, 0, none⟩)), (28, .agg (sdc (sideOf L1 p)).toArray), (23, .agg #[.slice A1 L1.length c1']), (29, .agg #[.slice A2 L2.length c2']), (35, .agg #[.slice A3 L3.length c3']), (27, sv p), (33, sv p), (39, sv p), (3, .pointer (some ⟨b1, 0, none⟩)), (4, .pointer (some ⟨b2, 0, none⟩)), (5, .pointer (some ⟨b3, 0, none⟩)), (7, .slice A8 O.length c8), (8, .slice A6 l.length c6), (9, .int .i64 (j : Int))]) (fun x : Nat => [pt x 50 (sdc default), row 52 7 A8 O.length c8 (cellsL cnc O), row 9 1 A6 l.length c6 (l.map sv), pt b3 24 [.slice A3 L3.length c3'], pt b2 24 [.slice A2 L2.length c2'], pt b1 24 [.slice A1 L1.length c1']]) (fun x => ?_) (fun nd21 => ?_)
    · skip
      revert x; intro b10
      try dsimp only
      refine D_three 11 19 20 rfl rfl rfl (E_hv0 (f := 48) ⟨_, Try.func48, rfl, by kernel_rfl⟩ (fun w hS => rside_any w A2 L2.length c2' L2 p ((Srd.old h2 (fun k _ => noOwns k)).rd w hS) (by omega)) rfl rfl (fun _ => rfl)) (E_alloca rfl sd_zero) (E_alloca rfl sd_zero) ?_ ?_ ?_ rfl rfl rfl rfl rfl rfl (by kernel_rfl)
      · rintro _ _ ⟨_, rfl, _, rfl⟩
        refine Nx_same sub_st ?_
        have h := nd13 (b10)
        try dsimp only at h
        exact D_at h (by repeat first | exact Sub.nil | refine Sub.cons rfl ?_) sub_st (by kernel_rfl)
      · rintro _ _ ⟨b11, rfl, rfl⟩
        refine Nx_same sub_st ?_
        have h := nd16 (b10, b11)
        try dsimp only at h
        exact D_at h (by repeat first | exact Sub.nil | refine Sub.cons rfl ?_) sub_st (by kernel_rfl)
      · rintro _ _ ⟨b12, rfl, rfl⟩
        refine Nx_same sub_st ?_
        have h := nd17 (b10, b12)
        try dsimp only at h
        exact D_at h (by repeat first | exact Sub.nil | refine Sub.cons rfl ?_) sub_st (by kernel_rfl)
    refine D_nodeR #[true, true, true, true, true, true, true, true, true, true, true, false, true, true, true, true, true, false, false, true, false, false, false, false] (fun x : Nat => [(11, .pointer (some ⟨x, 0, none⟩)), (28, .agg (sdc (sideOf L1 p)).toArray), (23, .agg #[.slice A1 L1.length c1']), (29, .agg #[.slice A2 L2.length c2']), (35, .agg #[.slice A3 L3.length c3']), (27, sv p), (33, sv p), (39, sv p), (3, .pointer (some ⟨b1, 0, none⟩)), (4, .pointer (some ⟨b2, 0, none⟩)), (5, .pointer (some ⟨b3, 0, none⟩)), (7, .slice A8 O.length c8), (8, .slice A6 l.length c6), (9, .int .i64 (j : Int))]) (fun x : Nat => [pt x 50 (sdc default), row 52 7 A8 O.length c8 (cellsL cnc O), row 9 1 A6 l.length c6 (l.map sv), pt b3 24 [.slice A3 L3.length c3'], pt b2 24 [.slice A2 L2.length c2'], pt b1 24 [.slice A1 L1.length c1']]) (fun x => ?_) (fun nd22 => ?_)
    · skip
      revert x; intro b11
      try dsimp only
      refine D_three 11 18 20 rfl rfl rfl (E_hv0 (f := 48) ⟨_, Try.func48, rfl, by kernel_rfl⟩ (fun w hS => rside_any w A2 L2.length c2' L2 p ((Srd.old h2 (fun k _ => noOwns k)).rd w hS) (by omega)) rfl rfl (fun _ => rfl)) (E_alloca rfl sd_zero) (E_alloca rfl sd_zero) ?_ ?_ ?_ rfl rfl rfl rfl rfl rfl (by kernel_rfl)
      · rintro _ _ ⟨_, rfl, _, rfl⟩
        refine Nx_same sub_st ?_
        have h := nd14 (b11)
        try dsimp only at h
        exact D_at h (by repeat first | exact Sub.nil | refine Sub.cons rfl ?_) sub_st (by kernel_rfl)
      · rintro _ _ ⟨b10, rfl, rfl⟩
        refine Nx_same sub_st ?_
        have h := nd16 (b10, b11)
        try dsimp only at h
        exact D_at h (by repeat first | exact Sub.nil | refine Sub.cons rfl ?_) sub_st (by kernel_rfl)
      · rintro _ _ ⟨b12, rfl, rfl⟩
        refine Nx_same sub_st ?_
        have h := nd18 (b11, b12)
        try dsimp only at h
        exact D_at h (by repeat first | exact Sub.nil | refine Sub.cons rfl ?_) sub_st (by kernel_rfl)
    refine D_nodeR #[true, true, true, true, true, true, true, true, true, true, true, false, true, true, true, true, true, false, false, false, true, false, false, false] (fun x : Nat => [(12, .pointer (some ⟨x, 0, none⟩)), (28, .agg (sdc (sideOf L1 p)).toArray), (23, .agg #[.slice A1 L1.length c1']), (29, .agg #[.slice A2 L2.length c2']), (35, .agg #[.slice A3 L3.length c3']), (27, sv p), (33, sv p), (39, sv p), (3, .pointer (some ⟨b1, 0, none⟩)), (4, .pointer (some ⟨b2, 0, none⟩)), (5, .pointer (some ⟨b3, 0, none⟩)), (7, .slice A8 O.length c8), (8, .slice A6 l.length c6), (9, .int .i64 (j : Int))]) (fun x : Nat => [pt x 50 (sdc default), row 52 7 A8 O.length c8 (cellsL cnc O), row 9 1 A6 l.length c6 (l.map sv), pt b3 24 [.slice A3 L3.length c3'], pt b2 24 [.slice A2 L2.length c2'], pt b1 24 [.slice A1 L1.length c1']]) (fun x => ?_) (fun nd23 => ?_)
    · skip
      revert x; intro b12
      try dsimp only
      refine D_three 11 18 19 rfl rfl rfl (E_hv0 (f := 48) ⟨_, Try.func48, rfl, by kernel_rfl⟩ (fun w hS => rside_any w A2 L2.length c2' L2 p ((Srd.old h2 (fun k _ => noOwns k)).rd w hS) (by omega)) rfl rfl (fun _ => rfl)) (E_alloca rfl sd_zero) (E_alloca rfl sd_zero) ?_ ?_ ?_ rfl rfl rfl rfl rfl rfl (by kernel_rfl)
      · rintro _ _ ⟨_, rfl, _, rfl⟩
        refine Nx_same sub_st ?_
        have h := nd15 (b12)
        try dsimp only at h
        exact D_at h (by repeat first | exact Sub.nil | refine Sub.cons rfl ?_) sub_st (by kernel_rfl)
      · rintro _ _ ⟨b10, rfl, rfl⟩
        refine Nx_same sub_st ?_
        have h := nd17 (b10, b12)
        try dsimp only at h
        exact D_at h (by repeat first | exact Sub.nil | refine Sub.cons rfl ?_) sub_st (by kernel_rfl)
      · rintro _ _ ⟨b11, rfl, rfl⟩
        refine Nx_same sub_st ?_
        have h := nd18 (b11, b12)
        try dsimp only at h
        exact D_at h (by repeat first | exact Sub.nil | refine Sub.cons rfl ?_) sub_st (by kernel_rfl)
    refine D_nodeR #[true, true, true, true, true, false, true, true, true, true, true, false, true, true, true, true, true, false, true, true, false, false, false, false] (fun x : Nat × Nat => [(11, .pointer (some ⟨x.2, 0, none⟩)), (10, .pointer (some ⟨x.1, 0, none⟩)), (23, .agg #[.slice A1 L1.length c1']), (29, .agg #[.slice A2 L2.length c2']), (35, .agg #[.slice A3 L3.length c3']), (27, sv p), (33, sv p), (39, sv p), (3, .pointer (some ⟨b1, 0, none⟩)), (4, .pointer (some ⟨b2, 0, none⟩)), (5, .pointer (some ⟨b3, 0, none⟩)), (7, .slice A8 O.length c8), (8, .slice A6 l.length c6), (9, .int .i64 (j : Int))]) (fun x : Nat × Nat => [pt x.2 50 (sdc default), pt x.1 50 (sdc default), row 52 7 A8 O.length c8 (cellsL cnc O), row 9 1 A6 l.length c6 (l.map sv), pt b3 24 [.slice A3 L3.length c3'], pt b2 24 [.slice A2 L2.length c2'], pt b1 24 [.slice A1 L1.length c1']]) (fun x => ?_) (fun nd24 => ?_)
    · skip
      obtain ⟨b10, b11⟩ := x
      try dsimp only
      refine D_two 5 20 (by decide) rfl rfl (E_hv0 (f := 48) ⟨_, Try.func48, rfl, by kernel_rfl⟩ (fun w hS => rside_any w A1 L1.length c1' L1 p ((Srd.old h1 (fun k _ => noOwns k)).rd w hS) (by omega)) rfl rfl (fun _ => rfl)) (E_alloca rfl sd_zero) ?_ ?_ rfl rfl rfl rfl (by kernel_rfl)
      · rintro _ _ ⟨_, rfl, _, rfl⟩
        refine Nx_same sub_st ?_
        have h := nd16 (b10, b11)
        try dsimp only at h
        exact D_at h (by repeat first | exact Sub.nil | refine Sub.cons rfl ?_) sub_st (by kernel_rfl)
      · rintro _ _ ⟨b12, rfl, rfl⟩
        refine Nx_same sub_st ?_
        have h := nd19 (b10, b11, b12)
        try dsimp only at h
        exact D_at h (by repeat first | exact Sub.nil | refine Sub.cons rfl ?_) sub_st (by kernel_rfl)
    refine D_nodeR #[true, true, true, true, true, false, true, true, true, true, true, false, true, true, true, true, true, false, true, false, true, false, false, false] (fun x : Nat × Nat => [(12, .pointer (some ⟨x.2, 0, none⟩)), (10, .pointer (some ⟨x.1, 0, none⟩)), (23, .agg #[.slice A1 L1.length c1']), (29, .agg #[.slice A2 L2.length c2']), (35, .agg #[.slice A3 L3.length c3']), (27, sv p), (33, sv p), (39, sv p), (3, .pointer (some ⟨b1, 0, none⟩)), (4, .pointer (some ⟨b2, 0, none⟩)), (5, .pointer (some ⟨b3, 0, none⟩)), (7, .slice A8 O.length c8), (8, .slice A6 l.length c6), (9, .int .i64 (j : Int))]) (fun x : Nat × Nat => [pt x.2 50 (sdc default), pt x.1 50 (sdc default), row 52 7 A8 O.length c8 (cellsL cnc O), row 9 1 A6 l.length c6 (l.map sv), pt b3 24 [.slice A3 L3.length c3'], pt b2 24 [.slice A2 L2.length c2'], pt b1 24 [.slice A1 L1.length c1']]) (fun x => ?_) (fun nd25 => ?_)
    · skip
      obtain ⟨b10, b12⟩ := x
      try dsimp only
      refine D_two 5 19 (by decide) rfl rfl (E_hv0 (f := 48) ⟨_, Try.func48, rfl, by kernel_rfl⟩ (fun w hS => rside_any w A1 L1.length c1' L1 p ((Srd.old h1 (fun k _ => noOwns k)).rd w hS) (by omega)) rfl rfl (fun _ => rfl)) (E_alloca rfl sd_zero) ?_ ?_ rfl rfl rfl rfl (by kernel_rfl)
      · rintro _ _ ⟨_, rfl, _, rfl⟩
        refine Nx_same sub_st ?_
        have h := nd17 (b10, b12)
        try dsimp only at h
        exact D_at h (by repeat first | exact Sub.nil | refine Sub.cons rfl ?_) sub_st (by kernel_rfl)
      · rintro _ _ ⟨b11, rfl, rfl⟩
        refine Nx_same sub_st ?_
        have h := nd19 (b10, b11, b12)
        try dsimp only at h
        exact D_at h (by repeat first | exact Sub.nil | refine Sub.cons rfl ?_) sub_st (by kernel_rfl)
    refine D_nodeR #[true, true, true, true, true, false, true, true, true, true, true, false, true, true, true, true, true, false, false, true, true, false, false, false] (fun x : Nat × Nat => [(12, .pointer (some ⟨x.2, 0, none⟩)), (11, .pointer (some ⟨x.1, 0, none⟩)), (23, .agg #[.slice A1 L1.length c1']), (29, .agg #[.slice A2 L2.length c2']), (35, .agg #[.slice A3 L3.length c3']), (27, sv p), (33, sv p), (39, sv p), (3, .pointer (some ⟨b1, 0, none⟩)), (4, .pointer (some ⟨b2, 0, none⟩)), (5, .pointer (some ⟨b3, 0, none⟩)), (7, .slice A8 O.length c8), (8, .slice A6 l.length c6), (9, .int .i64 (j : Int))]) (fun x : Nat × Nat => [pt x.2 50 (sdc default), pt x.1 50 (sdc default), row 52 7 A8 O.length c8 (cellsL cnc O), row 9 1 A6 l.length c6 (l.map sv), pt b3 24 [.slice A3 L3.length c3'], pt b2 24 [.slice A2 L2.length c2'], pt b1 24 [.slice A1 L1.length c1']]) (fun x => ?_) (fun nd26 => ?_)
    · skip
      obtain ⟨b11, b12⟩ := x
      try dsimp only
      refine D_two 5 18 (by decide) rfl rfl (E_hv0 (f := 48) ⟨_, Try.func48, rfl, by kernel_rfl⟩ (fun w hS => rside_any w A1 L1.length c1' L1 p ((Srd.old h1 (fun k _ => noOwns k)).rd w hS) (by omega)) rfl rfl (fun _ => rfl)) (E_alloca rfl sd_zero) ?_ ?_ rfl rfl rfl rfl (by kernel_rfl)
      · rintro _ _ ⟨_, rfl, _, rfl⟩
        refine Nx_same sub_st ?_
        have h := nd18 (b11, b12)
        try dsimp only at h
        exact D_at h (by repeat first | exact Sub.nil | refine Sub.cons rfl ?_) sub_st (by kernel_rfl)
      · rintro _ _ ⟨b10, rfl, rfl⟩
        refine Nx_same sub_st ?_
        have h := nd19 (b10, b11, b12)
        try dsimp only at h
        exact D_at h (by repeat first | exact Sub.nil | refine Sub.cons rfl ?_) sub_st (by kernel_rfl)
    refine D_nodeR #[true, true, true, true, true, true, true, true, true, true, true, false, true, true, true, true, true, false, false, false, false, false, false, false] (fun _ : Unit => [(28, .agg (sdc (sideOf L1 p)).toArray), (23, .agg #[.slice A1 L1.length c1']), (29, .agg #[.slice A2 L2.length c2']), (35, .agg #[.slice A3 L3.length c3']), (27, sv p), (33, sv p), (39, sv p), (3, .pointer (some ⟨b1, 0, none⟩)), (4, .pointer (some ⟨b2, 0, none⟩)), (5, .pointer (some ⟨b3, 0, none⟩)), (7, .slice A8 O.length c8), (8, .slice A6 l.length c6), (9, .int .i64 (j : Int))]) (fun _ : Unit => [row 52 7 A8 O.length c8 (cellsL cnc O), row 9 1 A6 l.length c6 (l.map sv), pt b3 24 [.slice A3 L3.length c3'], pt b2 24 [.slice A2 L2.length c2'], pt b1 24 [.slice A1 L1.length c1']]) (fun x => ?_) (fun nd27 => ?_)
    · skip
      obtain ⟨⟩ := x
      try dsimp only
      refine D_four 11 18 19 20 rfl rfl rfl rfl (E_hv0 (f := 48) ⟨_, Try.func48, rfl, by kernel_rfl⟩ (fun w hS => rside_any w A2 L2.length c2' L2 p ((Srd.old h2 (fun k _ => noOwns k)).rd w hS) (by omega)) rfl rfl (fun _ => rfl)) (E_alloca rfl sd_zero) (E_alloca rfl sd_zero) (E_alloca rfl sd_zero) ?_ ?_ ?_ ?_ rfl rfl rfl rfl rfl rfl rfl rfl (by kernel_rfl)
      · rintro _ _ ⟨_, rfl, _, rfl⟩
        refine Nx_same sub_st ?_
        have h := nd20 ()
        try dsimp only at h
        exact D_at h (by repeat first | exact Sub.nil | refine Sub.cons rfl ?_) sub_st (by kernel_rfl)
      · rintro _ _ ⟨b10, rfl, rfl⟩
        refine Nx_same sub_st ?_
        have h := nd21 (b10)
        try dsimp only at h
        exact D_at h (by repeat first | exact Sub.nil | refine Sub.cons rfl ?_) sub_st (by kernel_rfl)
      · rintro _ _ ⟨b11, rfl, rfl⟩
        refine Nx_same sub_st ?_
        have h := nd22 (b11)
        try dsimp only at h
        exact D_at h (by repeat first | exact Sub.nil | refine Sub.cons rfl ?_) sub_st (by kernel_rfl)
      · rintro _ _ ⟨b12, rfl, rfl⟩
        refine Nx_same sub_st ?_
        have h := nd23 (b12)
        try dsimp only at h
        exact D_at h (by repeat first | exact Sub.nil | refine Sub.cons rfl ?_) sub_st (by kernel_rfl)
    refine D_nodeR #[true, true, true, true, true, false, true, true, true, true, true, false, true, true, true, true, true, false, true, false, false, false, false, false] (fun x : Nat => [(10, .pointer (some ⟨x, 0, none⟩)), (23, .agg #[.slice A1 L1.length c1']), (29, .agg #[.slice A2 L2.length c2']), (35, .agg #[.slice A3 L3.length c3']), (27, sv p), (33, sv p), (39, sv p), (3, .pointer (some ⟨b1, 0, none⟩)), (4, .pointer (some ⟨b2, 0, none⟩)), (5, .pointer (some ⟨b3, 0, none⟩)), (7, .slice A8 O.length c8), (8, .slice A6 l.length c6), (9, .int .i64 (j : Int))]) (fun x : Nat => [pt x 50 (sdc default), row 52 7 A8 O.length c8 (cellsL cnc O), row 9 1 A6 l.length c6 (l.map sv), pt b3 24 [.slice A3 L3.length c3'], pt b2 24 [.slice A2 L2.length c2'], pt b1 24 [.slice A1 L1.length c1']]) (fun x => ?_) (fun nd28 => ?_)
    · skip
      revert x; intro b10
      try dsimp only
      refine D_three 5 19 20 rfl rfl rfl (E_hv0 (f := 48) ⟨_, Try.func48, rfl, by kernel_rfl⟩ (fun w hS => rside_any w A1 L1.length c1' L1 p ((Srd.old h1 (fun k _ => noOwns k)).rd w hS) (by omega)) rfl rfl (fun _ => rfl)) (E_alloca rfl sd_zero) (E_alloca rfl sd_zero) ?_ ?_ ?_ rfl rfl rfl rfl rfl rfl (by kernel_rfl)
      · rintro _ _ ⟨_, rfl, _, rfl⟩
        refine Nx_same sub_st ?_
        have h := nd21 (b10)
        try dsimp only at h
        exact D_at h (by repeat first | exact Sub.nil | refine Sub.cons rfl ?_) sub_st (by kernel_rfl)
      · rintro _ _ ⟨b11, rfl, rfl⟩
        refine Nx_same sub_st ?_
        have h := nd24 (b10, b11)
        try dsimp only at h
        exact D_at h (by repeat first | exact Sub.nil | refine Sub.cons rfl ?_) sub_st (by kernel_rfl)
      · rintro _ _ ⟨b12, rfl, rfl⟩
        refine Nx_same sub_st ?_
        have h := nd25 (b10, b12)
        try dsimp only at h
        exact D_at h (by repeat first | exact Sub.nil | refine Sub.cons rfl ?_) sub_st (by kernel_rfl)
    refine D_nodeR #[true, true, true, true, true, false, true, true, true, true, true, false, true, true, true, true, true, false, false, true, false, false, false, false] (fun x : Nat => [(11, .pointer (some ⟨x, 0, none⟩)), (23, .agg #[.slice A1 L1.length c1']), (29, .agg #[.slice A2 L2.length c2']), (35, .agg #[.slice A3 L3.length c3']), (27, sv p), (33, sv p), (39, sv p), (3, .pointer (some ⟨b1, 0, none⟩)), (4, .pointer (some ⟨b2, 0, none⟩)), (5, .pointer (some ⟨b3, 0, none⟩)), (7, .slice A8 O.length c8), (8, .slice A6 l.length c6), (9, .int .i64 (j : Int))]) (fun x : Nat => [pt x 50 (sdc default), row 52 7 A8 O.length c8 (cellsL cnc O), row 9 1 A6 l.length c6 (l.map sv), pt b3 24 [.slice A3 L3.length c3'], pt b2 24 [.slice A2 L2.length c2'], pt b1 24 [.slice A1 L1.length c1']]) (fun x => ?_) (fun nd29 => ?_)
    · skip
      revert x; intro b11
      try dsimp only
      refine D_three 5 18 20 rfl rfl rfl (E_hv0 (f := 48) ⟨_, Try.func48, rfl, by kernel_rfl⟩ (fun w hS => rside_any w A1 L1.length c1' L1 p ((Srd.old h1 (fun k _ => noOwns k)).rd w hS) (by omega)) rfl rfl (fun _ => rfl)) (E_alloca rfl sd_zero) (E_alloca rfl sd_zero) ?_ ?_ ?_ rfl rfl rfl rfl rfl rfl (by kernel_rfl)
      · rintro _ _ ⟨_, rfl, _, rfl⟩
        refine Nx_same sub_st ?_
        have h := nd22 (b11)
        try dsimp only at h
        exact D_at h (by repeat first | exact Sub.nil | refine Sub.cons rfl ?_) sub_st (by kernel_rfl)
      · rintro _ _ ⟨b10, rfl, rfl⟩
        refine Nx_same sub_st ?_
        have h := nd24 (b10, b11)
        try dsimp only at h
        exact D_at h (by repeat first | exact Sub.nil | refine Sub.cons rfl ?_) sub_st (by kernel_rfl)
      · rintro _ _ ⟨b12, rfl, rfl⟩
        refine Nx_same sub_st ?_
        have h := nd26 (b11, b12)
        try dsimp only at h
        exact D_at h (by repeat first | exact Sub.nil | refine Sub.cons rfl ?_) sub_st (by kernel_rfl)
    refine D_nodeR #[true, true, true, true, true, false, true, true, true, true, true, false, true, true, true, true, true, false, false, false, true, false, false, false] (fun x : Nat => [(12, .pointer (some ⟨x, 0, none⟩)), (23, .agg #[.slice A1 L1.length c1']), (29, .agg #[.slice A2 L2.length c2']), (35, .agg #[.slice A3 L3.length c3']), (27, sv p), (33, sv p), (39, sv p), (3, .pointer (some ⟨b1, 0, none⟩)), (4, .pointer (some ⟨b2, 0, none⟩)), (5, .pointer (some ⟨b3, 0, none⟩)), (7, .slice A8 O.length c8), (8, .slice A6 l.length c6), (9, .int .i64 (j : Int))]) (fun x : Nat => [pt x 50 (sdc default), row 52 7 A8 O.length c8 (cellsL cnc O), row 9 1 A6 l.length c6 (l.map sv), pt b3 24 [.slice A3 L3.length c3'], pt b2 24 [.slice A2 L2.length c2'], pt b1 24 [.slice A1 L1.length c1']]) (fun x => ?_) (fun nd30 => ?_)
    · skip
      revert x; intro b12
      try dsimp only
      refine D_three 5 18 19 rfl rfl rfl (E_hv0 (f := 48) ⟨_, Try.func48, rfl, by kernel_rfl⟩ (fun w hS => rside_any w A1 L1.length c1' L1 p ((Srd.old h1 (fun k _ => noOwns k)).rd w hS) (by omega)) rfl rfl (fun _ => rfl)) (E_alloca rfl sd_zero) (E_alloca rfl sd_zero) ?_ ?_ ?_ rfl rfl rfl rfl rfl rfl (by kernel_rfl)
      · rintro _ _ ⟨_, rfl, _, rfl⟩
        refine Nx_same sub_st ?_
        have h := nd23 (b12)
        try dsimp only at h
        exact D_at h (by repeat first | exact Sub.nil | refine Sub.cons rfl ?_) sub_st (by kernel_rfl)
      · rintro _ _ ⟨b10, rfl, rfl⟩
        refine Nx_same sub_st ?_
        have h := nd25 (b10, b12)
        try dsimp only at h
        exact D_at h (by repeat first | exact Sub.nil | refine Sub.cons rfl ?_) sub_st (by kernel_rfl)
      · rintro _ _ ⟨b11, rfl, rfl⟩
        refine Nx_same sub_st ?_
        have h := nd26 (b11, b12)
        try dsimp only at h
        exact D_at h (by repeat first | exact Sub.nil | refine Sub.cons rfl ?_) sub_st (by kernel_rfl)
    refine D_nodeR #[true, true, true, true, true, false, true, true, true, true, true, false, true, true, true, true, true, false, false, false, false, false, false, false] (fun _ : Unit => [(23, .agg #[.slice A1 L1.length c1']), (29, .agg #[.slice A2 L2.length c2']), (35, .agg #[.slice A3 L3.length c3']), (27, sv p), (33, sv p), (39, sv p), (3, .pointer (some ⟨b1, 0, none⟩)), (4, .pointer (some ⟨b2, 0, none⟩)), (5, .pointer (some ⟨b3, 0, none⟩)), (7, .slice A8 O.length c8), (8, .slice A6 l.length c6), (9, .int .i64 (j : Int))]) (fun _ : Unit => [row 52 7 A8 O.length c8 (cellsL cnc O), row 9 1 A6 l.length c6 (l.map sv), pt b3 24 [.slice A3 L3.length c3'], pt b2 24 [.slice A2 L2.length c2'], pt b1 24 [.slice A1 L1.length c1']]) (fun x => ?_) (fun nd31 => ?_)
    · skip
      obtain ⟨⟩ := x
      try dsimp only
      refine D_four 5 18 19 20 rfl rfl rfl rfl (E_hv0 (f := 48) ⟨_, Try.func48, rfl, by kernel_rfl⟩ (fun w hS => rside_any w A1 L1.length c1' L1 p ((Srd.old h1 (fun k _ => noOwns k)).rd w hS) (by omega)) rfl rfl (fun _ => rfl)) (E_alloca rfl sd_zero) (E_alloca rfl sd_zero) (E_alloca rfl sd_zero) ?_ ?_ ?_ ?_ rfl rfl rfl rfl rfl rfl rfl rfl (by kernel_rfl)
      · rintro _ _ ⟨_, rfl, _, rfl⟩
        refine Nx_same sub_st ?_
        have h := nd27 ()
        try dsimp only at h
        exact D_at h (by repeat first | exact Sub.nil | refine Sub.cons rfl ?_) sub_st (by kernel_rfl)
      · rintro _ _ ⟨b10, rfl, rfl⟩
        refine Nx_same sub_st ?_
        have h := nd28 (b10)
        try dsimp only at h
        exact D_at h (by repeat first | exact Sub.nil | refine Sub.cons rfl ?_) sub_st (by kernel_rfl)
      · rintro _ _ ⟨b11, rfl, rfl⟩
        refine Nx_same sub_st ?_
        have h := nd29 (b11)
        try dsimp only at h
        exact D_at h (by repeat first | exact Sub.nil | refine Sub.cons rfl ?_) sub_st (by kernel_rfl)
      · rintro _ _ ⟨b12, rfl, rfl⟩
        refine Nx_same sub_st ?_
        have h := nd30 (b12)
        try dsimp only at h
        exact D_at h (by repeat first | exact Sub.nil | refine Sub.cons rfl ?_) sub_st (by kernel_rfl)
    have h := nd31 ()
    try dsimp only at h
    exact D_at h (by repeat first | exact Sub.nil | refine Sub.cons rfl ?_) sub_st (by kernel_rfl)
    obtain ⟨b10, b11, b12⟩ := x
    try dsimp only
    refine D_one 21 rfl (E_storew (cs := sdc default) (ds := sdc (sideOf L1 p)) rfl rfl rfl rfl (sdc_one _) rfl) ?_ rfl rfl (by kernel_rfl)
    rintro _ _ rfl
    refine Nx_pivot (by kernel_rfl) ?_
    refine D_one 22 rfl (E_storew (cs := sdc default) (ds := sdc (sideOf L2 p)) rfl rfl rfl rfl (sdc_one _) rfl) ?_ rfl rfl (by kernel_rfl)
    rintro _ _ rfl
    refine Nx_pivot (by kernel_rfl) ?_
    refine D_one 23 rfl (E_storew (cs := sdc default) (ds := sdc (sideOf L3 p)) rfl rfl rfl rfl (sdc_one _) rfl) ?_ rfl rfl (by kernel_rfl)
    rintro _ _ rfl
    refine Nx_pivot (by kernel_rfl) ?_
    refine D_done ?_ (by kernel_rfl)
    skip
    obtain ⟨x1, hx1⟩ : ∃ x, sideOf L1 p = x := ⟨_, rfl⟩
    obtain ⟨x2, hx2⟩ : ∃ x, sideOf L2 p = x := ⟨_, rfl⟩
    obtain ⟨x3, hx3⟩ : ∃ x, sideOf L3 p = x := ⟨_, rfl⟩
    have hcn : cnOf L1 L2 L3 p = (p, x1, x2, x3) := by rw [cnOf, hx1, hx2, hx3]
    rw [hx1, hx2, hx3]
    obtain ⟨r1, hr1⟩ : ∃ r, decide (x2 = x3) = r := ⟨_, rfl⟩
    obtain ⟨r2, hr2⟩ : ∃ r, decide (x1 = x2) = r := ⟨_, rfl⟩
    obtain ⟨r3, hr3⟩ : ∃ r, decide (x1 = x3) = r := ⟨_, rfl⟩
    have hok : (settle_ (p, x1, x2, x3)).2 = (r1 || (r2 || r3)) := by
      subst hr1 hr2 hr3
      by_cases h1 : x2 = x3 <;> by_cases h2 : x1 = x2 <;> by_cases h3 : x1 = x3 <;> simp [settle_, h1, h2, h3]
    have hnx := hnx _ rfl
    have hrc : rcnf1 L1 L2 L3 p = if r1 || (r2 || r3) then none else some (p, x1, x2, x3) := by rw [rcnf1, hcn, hok]
    rw [hrc] at hnx
    obtain ⟨O', hO'⟩ : ∃ O', (l.take (j + 1)).filterMap (rcnf1 L1 L2 L3) = O' := ⟨_, rfl⟩
    rw [hO'] at hnx
    refine S_cut (X := Option Addr × Nat) (fun y => [(3, .pointer (some ⟨b1, 0, none⟩)), (4, .pointer (some ⟨b2, 0, none⟩)), (5, .pointer (some ⟨b3, 0, none⟩)), (7, .slice y.1 O'.length y.2), (8, .slice A6 l.length c6), (9, .int .i64 (j : Int))]) (fun y => [row 52 7 y.1 O'.length y.2 (cellsL cnc O'), row 9 1 A6 l.length c6 (l.map sv), pt b3 24 [.slice A3 L3.length c3'], pt b2 24 [.slice A2 L2.length c2'], pt b1 24 [.slice A1 L1.length c1']]) (fun _ => True) (fun J2 hJ2 => ?_) (fun y _ => ?_)
    · cases r1
      · cases r2
        · cases r3
          · have e : O' = O ++ [(p, x1, x2, x3)] := by rw [hnx]; rfl
            rw [e] at hJ2
            focus (refine S_seq rfl ?_; refine S_region rfl rfl ?_; refine R_take (T_loads (ds := sdc x2) rfl rfl rfl rfl rfl) ?_ rfl rfl; refine R_take (T_loads (ds := sdc x3) rfl rfl rfl rfl rfl) ?_ rfl rfl; refine R_take (T_neSd (a := x2) (b := x3) rfl rfl hr1) ?_ rfl rfl; refine R_p rfl ?_ rfl rfl; refine R_take (T_loads (ds := sdc x1) rfl rfl rfl rfl rfl) ?_ rfl rfl; refine R_take (T_loads (ds := sdc x2) rfl rfl rfl rfl rfl) ?_ rfl rfl; refine R_take (T_neSd (a := x1) (b := x2) rfl rfl hr2) ?_ rfl rfl; refine R_p rfl ?_ rfl rfl; refine R_p rfl ?_ rfl rfl; refine R_take (T_loads (ds := sdc x1) rfl rfl rfl rfl rfl) ?_ rfl rfl; refine R_take (T_loads (ds := sdc x3) rfl rfl rfl rfl rfl) ?_ rfl rfl; refine R_take (T_neSd (a := x1) (b := x3) rfl rfl hr3) ?_ rfl rfl; refine R_p rfl ?_ rfl rfl; refine R_nil ?_; refine S_true rfl rfl ?_)
            refine S_draw ([pt b12 50 (sdc x3), pt b11 50 (sdc x2), pt b10 50 (sdc x1), row 9 1 A6 l.length c6 (l.map sv)]) sub_st (by kernel_rfl) rfl (by kernel_rfl) (by kernel_rfl : _ = 12) ?_
            refine D_take 0 rfl (pev_ok rfl) ?_ rfl rfl (by kernel_rfl) (by kernel_rfl)
            refine D_take 1 rfl (pev_ok rfl) ?_ rfl rfl (by kernel_rfl) (by kernel_rfl)
            refine D_take 2 rfl (pev_ok rfl) ?_ rfl rfl (by kernel_rfl) (by kernel_rfl)
            refine D_take 3 rfl (T_ixN rfl rfl rfl rfl rfl rfl hne6 hjl) ?_ rfl rfl (by kernel_rfl) (by kernel_rfl)
            refine D_take 4 rfl (T_ldr rfl rfl rfl (Srd.row (n := l.length) (c := c6)) (by omega) hat) ?_ rfl rfl (by kernel_rfl) (by kernel_rfl)
            refine D_take 5 rfl (T_loads (ds := sdc x1) rfl rfl rfl rfl rfl) ?_ rfl rfl (by kernel_rfl) (by kernel_rfl)
            refine D_take 6 rfl (T_loads (ds := sdc x2) rfl rfl rfl rfl rfl) ?_ rfl rfl (by kernel_rfl) (by kernel_rfl)
            refine D_take 7 rfl (T_loads (ds := sdc x3) rfl rfl rfl rfl rfl) ?_ rfl rfl (by kernel_rfl) (by kernel_rfl)
            refine D_take 8 rfl (T_build4 rfl rfl rfl rfl (cn_built4 p x1 x2 x3)) ?_ rfl rfl (by kernel_rfl) (by kernel_rfl)
            refine D_one 9 rfl (E_litS (vs := [.agg (cnc (p, x1, x2, x3)).toArray]) (size := 7) (ds := cnc (p, x1, x2, x3)) rfl rfl rfl rfl rfl rfl (by simp [vcells, cnc]) rfl (by omega)) ?_ rfl rfl (by kernel_rfl)
            rintro _ _ ⟨vb, rfl, rfl⟩
            refine Nx_same sub_st ?_
            refine D_one 10 rfl (E_appS (sz := 7) (m := O.length) (c := c8) (A := A8) rfl rfl rfl rfl rfl rfl rfl (by decide) (Srd.pt (n := 1) (g := vb) (ds := cnc (p, x1, x2, x3)) rfl (fun j u hj => by rw [Nat.zero_add]; exact hj)) (cnc_one _) (by show (O.length + 1) * 88 ≤ _; omega) (by unfold maxLen; omega)) ?_ rfl rfl (by kernel_rfl)
            rintro _ _ ⟨A9, c9, rfl, rfl⟩
            refine Nx_same sub_st ?_
            refine D_take 11 rfl (pev_ok rfl) ?_ rfl rfl (by kernel_rfl) (by kernel_rfl)
            refine D_done ?_ (by kernel_rfl)
            skip
            skip
            have e1 : (O ++ [(p, x1, x2, x3)]).length = O.length + 1 := by simp
            refine hJ2 (A9, c9) _ _ trivial ?_ (fun w' hS => ?_)
            · dsimp only
              rw [e1]
              exact (Sub.cons rfl (Sub.cons rfl (Sub.cons rfl (Sub.cons rfl (Sub.cons rfl (Sub.cons rfl Sub.nil))))))
            · dsimp only
              rw [e1, cellsL_app, cellsL_one]
              exact sub_st w' hS
          · have e : O' = O := by rw [hnx]; simp
            rw [e] at hJ2
            focus (refine S_seq rfl ?_; refine S_region rfl rfl ?_; refine R_take (T_loads (ds := sdc x2) rfl rfl rfl rfl rfl) ?_ rfl rfl; refine R_take (T_loads (ds := sdc x3) rfl rfl rfl rfl rfl) ?_ rfl rfl; refine R_take (T_neSd (a := x2) (b := x3) rfl rfl hr1) ?_ rfl rfl; refine R_p rfl ?_ rfl rfl; refine R_take (T_loads (ds := sdc x1) rfl rfl rfl rfl rfl) ?_ rfl rfl; refine R_take (T_loads (ds := sdc x2) rfl rfl rfl rfl rfl) ?_ rfl rfl; refine R_take (T_neSd (a := x1) (b := x2) rfl rfl hr2) ?_ rfl rfl; refine R_p rfl ?_ rfl rfl; refine R_p rfl ?_ rfl rfl; refine R_take (T_loads (ds := sdc x1) rfl rfl rfl rfl rfl) ?_ rfl rfl; refine R_take (T_loads (ds := sdc x3) rfl rfl rfl rfl rfl) ?_ rfl rfl; refine R_take (T_neSd (a := x1) (b := x3) rfl rfl hr3) ?_ rfl rfl; refine R_p rfl ?_ rfl rfl; refine R_nil ?_; refine S_false rfl rfl ?_; refine S_skip rfl ?_)
            exact hJ2 (A8, c8) _ _ trivial (Sub.cons rfl (Sub.cons rfl (Sub.cons rfl (Sub.cons rfl (Sub.cons rfl (Sub.cons rfl Sub.nil)))))) sub_st
        · have e : O' = O := by rw [hnx]; simp
          rw [e] at hJ2
          focus (refine S_seq rfl ?_; refine S_region rfl rfl ?_; refine R_take (T_loads (ds := sdc x2) rfl rfl rfl rfl rfl) ?_ rfl rfl; refine R_take (T_loads (ds := sdc x3) rfl rfl rfl rfl rfl) ?_ rfl rfl; refine R_take (T_neSd (a := x2) (b := x3) rfl rfl hr1) ?_ rfl rfl; refine R_p rfl ?_ rfl rfl; refine R_take (T_loads (ds := sdc x1) rfl rfl rfl rfl rfl) ?_ rfl rfl; refine R_take (T_loads (ds := sdc x2) rfl rfl rfl rfl rfl) ?_ rfl rfl; refine R_take (T_neSd (a := x1) (b := x2) rfl rfl hr2) ?_ rfl rfl; refine R_p rfl ?_ rfl rfl; refine R_p rfl ?_ rfl rfl; refine R_skip ?_ rfl rfl; refine R_skip ?_ rfl rfl; refine R_skip ?_ rfl rfl; refine R_p rfl ?_ rfl rfl; refine R_nil ?_; refine S_false rfl rfl ?_; refine S_skip rfl ?_)
          exact hJ2 (A8, c8) _ _ trivial (Sub.cons rfl (Sub.cons rfl (Sub.cons rfl (Sub.cons rfl (Sub.cons rfl (Sub.cons rfl Sub.nil)))))) sub_st
      · have e : O' = O := by rw [hnx]; simp
        rw [e] at hJ2
        focus (refine S_seq rfl ?_; refine S_region rfl rfl ?_; refine R_take (T_loads (ds := sdc x2) rfl rfl rfl rfl rfl) ?_ rfl rfl; refine R_take (T_loads (ds := sdc x3) rfl rfl rfl rfl rfl) ?_ rfl rfl; refine R_take (T_neSd (a := x2) (b := x3) rfl rfl hr1) ?_ rfl rfl; refine R_p rfl ?_ rfl rfl; refine R_skip ?_ rfl rfl; refine R_skip ?_ rfl rfl; refine R_skip ?_ rfl rfl; refine R_p rfl ?_ rfl rfl; refine R_p rfl ?_ rfl rfl; refine R_skip ?_ rfl rfl; refine R_skip ?_ rfl rfl; refine R_skip ?_ rfl rfl; refine R_p rfl ?_ rfl rfl; refine R_nil ?_; refine S_false rfl rfl ?_; refine S_skip rfl ?_)
        exact hJ2 (A8, c8) _ _ trivial (Sub.cons rfl (Sub.cons rfl (Sub.cons rfl (Sub.cons rfl (Sub.cons rfl (Sub.cons rfl Sub.nil)))))) sub_st
    · obtain ⟨A9, c9⟩ := y
      focus (refine RS_blk ?_; refine S_region rfl rfl ?_; refine R_p rfl ?_ rfl rfl; refine R_take (T_addN rfl rfl (by unfold fits; omega)) ?_ rfl rfl; refine R_p rfl ?_ rfl rfl; refine R_nil ?_)
      refine hJ (j + 1, A9, c9) _ _ (by show j + 1 ≤ _; omega) ?_ (fun w' hS => ?_) (by show l.length - (j + 1) < _; omega)
      · dsimp only
        rw [hO']
        exact (Sub.cons rfl (Sub.cons rfl (Sub.cons rfl (Sub.cons rfl (Sub.cons rfl (Sub.cons rfl Sub.nil))))))
      · dsimp only
        rw [hO']
        exact sub_st w' hS
  have hend := hend (by omega)
  rw [hend] at hB
  focus (refine S_seq rfl ?_; refine S_seq rfl ?_; refine S_region rfl rfl ?_; refine R_p rfl ?_ rfl rfl; refine R_p rfl ?_ rfl rfl; refine R_p rfl ?_ rfl rfl; refine R_take (T_decF rfl (by omega)) ?_ rfl rfl; refine R_nil ?_; refine S_false rfl rfl ?_; refine S_exit rfl rfl ?_; refine S_seq rfl ?_; refine S_region rfl rfl ?_; refine R_p rfl ?_ rfl rfl; refine R_p rfl ?_ rfl rfl; refine R_nil ?_)
  exact hB _ _ _ _ _ rfl rfl fun w' hS => ⟨(A8, c8), rfl, trivial, sub_st _ hS⟩
end Go.Proofs.Ytghfjfgpiomdhaa
