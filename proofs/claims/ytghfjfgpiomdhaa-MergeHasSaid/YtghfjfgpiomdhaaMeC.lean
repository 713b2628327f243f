/- Merges by the document: the merge. -/
import Derived.Test.YtghfjfgpiomdhaaMeB
namespace Go.Proofs.Ytghfjfgpiomdhaa
open Go.RowKit
open Asn (pt row rb)
set_option linter.unusedVariables false
set_option linter.unusedSimpArgs false
--@use N

/-- what is at a path behind a merge, by the document -/
def rres0 (b o t : Sd) (q : Option Ch) : Sd := match q with
  | some c => (c.2.1, c.2.2)
  | none => if o ≠ t ∧ b = o then t else o
def rres1 (L1 L2 L3 : List Rw) (C : List Ch) (p : Str) : Option Rw :=
  let x := rres0 (sideOf L1 p) (sideOf L2 p) (sideOf L3 p) (fstK (·.1) C p)
  if x.1 then some (p, x.2) else none
def rmg (L1 L2 L3 : List Rw) (C : List Ch) : List Rw := (pathsR L1 L2 L3).filterMap (rres1 L1 L2 L3 C)
set_option maxRecDepth 100000 in
set_option maxHeartbeats 4000000 in
theorem rmerge_any (w : World) (A1 A2 A3 : Option Addr) (c1' c2' c3' : Nat) (L1 L2 L3 : List Rw) (h1 : Rd w All 2 A1 L1.length (cellsL rwc L1)) (h2 : Rd w All 2 A2 L2.length (cellsL rwc L2)) (h3 : Rd w All 2 A3 L3.length (cellsL rwc L3)) (hn1 : L1.length ≤ 250) (hn2 : L2.length ≤ 250) (hn3 : L3.length ≤ 250) (A4 : Option Addr) (c4 : Nat) (C : List Ch) (h4 : Rd w All 3 A4 C.length (cellsL chc C)) (hn4 : C.length ≤ 1000) :
    Gives Try.prog 19 [.agg #[.slice A1 L1.length c1'], .agg #[.slice A2 L2.length c2'], .agg #[.slice A3 L3.length c3'], .agg #[.slice A4 C.length c4]] [] w (X := Option Addr × Nat) (fun x => .agg #[.slice x.1 (rmg L1 L2 L3 C).length x.2]) (fun _ => True) (fun x => [row 70 2 x.1 (rmg L1 L2 L3 C).length x.2 (cellsL rwc (rmg L1 L2 L3 C))]) := by
  refine gives_C Try.func19 rfl Try.ntmps19 Try.results19 (by simp) (St.enter w) (fun B hB => ?_)
  have hll := pathsR_len L1 L2 L3
  rw [rmg] at hB
  obtain ⟨l, hl⟩ : ∃ l, pathsR L1 L2 L3 = l := ⟨_, rfl⟩
  rw [hl] at hB hll
  focus (refine S_seq rfl ?_; refine S_region rfl rfl ?_; (refine R_eff (E_boxa (cs := [.slice A1 L1.length c1']) rfl) ?_ rfl rfl; rintro _ _ ⟨b1, rfl, rfl⟩); (refine R_eff (E_boxa (cs := [.slice A2 L2.length c2']) rfl) ?_ rfl rfl; rintro _ _ ⟨b2, rfl, rfl⟩); (refine R_eff (E_boxa (cs := [.slice A3 L3.length c3']) rfl) ?_ rfl rfl; rintro _ _ ⟨b3, rfl, rfl⟩); (refine R_eff (E_boxa (cs := [.slice A4 C.length c4]) rfl) ?_ rfl rfl; rintro _ _ ⟨b4, rfl, rfl⟩); (refine R_eff (E_alloca (H := [pt b4 29 [.slice A4 C.length c4], pt b3 24 [.slice A3 L3.length c3'], pt b2 24 [.slice A2 L2.length c2'], pt b1 24 [.slice A1 L1.length c1']]) rfl mp_alloc) ?_ rfl rfl; rintro _ _ ⟨b8, rfl, rfl⟩); refine R_nil ?_; refine S_seq rfl ?_; refine S_region rfl rfl ?_; refine R_take (T_build0 mp_built0) ?_ rfl rfl; (refine R_eff (E_alloca rfl mp_alloc) ?_ rfl rfl; rintro _ _ ⟨b9, rfl, rfl⟩); (refine R_eff0 (E_storew (ds := [.slice none 0 0]) (cs := [.slice none 0 0]) rfl rfl rfl rfl (sl_one _ _ _) rfl) ?_ rfl; rintro _ _ rfl); refine R_nil ?_; refine S_seq rfl ?_; refine S_region rfl rfl ?_; refine R_take (T_loada (ds := [.slice A1 L1.length c1']) rfl rfl rfl rfl (fun j v h => by simpa using h)) ?_ rfl rfl; refine R_take (T_loada (ds := [.slice A2 L2.length c2']) rfl rfl rfl rfl (fun j v h => by simpa using h)) ?_ rfl rfl; refine R_take (T_loada (ds := [.slice A3 L3.length c3']) rfl rfl rfl rfl (fun j v h => by simpa using h)) ?_ rfl rfl; ((refine R_eff (E_hv1 (f := 47) ⟨_, Try.func47, rfl, by kernel_rfl⟩ (fun w hS => r3paths_any w A1 A2 A3 c1' c2' c3' L1 L2 L3 ((Srd.old h1 (fun k _ => noOwns k)).rd w hS) ((Srd.old h2 (fun k _ => noOwns k)).rd w hS) ((Srd.old h3 (fun k _ => noOwns k)).rd w hS) hn1 hn2 hn3) rfl rfl (fun _ => rfl)) ?_ rfl rfl; rintro _ _ ⟨⟨A6, c6⟩, rfl, _, rfl⟩); rw [hl]); refine R_p rfl ?_ rfl rfl; refine R_nil ?_; refine S_seq rfl ?_; refine S_seq rfl ?_; refine S_region rfl rfl ?_; refine R_p rfl ?_ rfl rfl; refine R_nil ?_; refine S_block rfl ?_)
  refine RS_row A6 l.length c6 fun _ _ hne6 _ => ?_
  refine S_loop (X := Nat × Option Addr × Nat) (fun x => [(4, .pointer (some ⟨b1, 0, none⟩)), (5, .pointer (some ⟨b2, 0, none⟩)), (6, .pointer (some ⟨b3, 0, none⟩)), (7, .pointer (some ⟨b4, 0, none⟩)), (8, .pointer (some ⟨b8, 0, none⟩)), (9, .pointer (some ⟨b9, 0, none⟩)), (10, .slice A6 l.length c6), (11, .int .i64 (x.1 : Int))]) (fun x => [row 70 2 x.2.1 ((l.take x.1).filterMap (rres1 L1 L2 L3 C)).length x.2.2 (cellsL rwc ((l.take x.1).filterMap (rres1 L1 L2 L3 C))), row 9 1 A6 l.length c6 (l.map sv), pt b9 24 [.slice x.2.1 ((l.take x.1).filterMap (rres1 L1 L2 L3 C)).length x.2.2], pt b8 24 [.slice none 0 0], pt b4 29 [.slice A4 C.length c4], pt b3 24 [.slice A3 L3.length c3'], pt b2 24 [.slice A2 L2.length c2'], pt b1 24 [.slice A1 L1.length c1']]) (fun x => x.1 ≤ l.length) (fun x => l.length - x.1) rfl (0, none, 0) (Nat.zero_le _) (Sub.cons rfl (Sub.cons rfl (Sub.cons rfl (Sub.cons rfl (Sub.cons rfl (Sub.cons rfl (Sub.cons rfl (Sub.cons rfl Sub.nil)))))))) (fun w hS => sub_st (H' := [row 70 2 none 0 0 [], row 9 1 A6 l.length c6 (l.map sv), pt b9 24 [.slice none 0 0], pt b8 24 [.slice none 0 0], pt b4 29 [.slice A4 C.length c4], pt b3 24 [.slice A3 L3.length c3'], pt b2 24 [.slice A2 L2.length c2'], pt b1 24 [.slice A1 L1.length c1']]) w (hS.nilrow 70 2)) ?_
  rintro ⟨j, A8, c8⟩ hj J hJ
  dsimp only at hj ⊢
  have hnx := fun (hj : j < l.length) (p : Str) (hp : l.getD j default = p) (o : Option Rw) (ho : rres1 L1 L2 L3 C p = o) => fm_nextC (rres1 L1 L2 L3 C) l j hj hp ho
  have hOl : ((l.take j).filterMap (rres1 L1 L2 L3 C)).length ≤ j := Nat.le_trans (List.length_filterMap_le _ _) (by rw [List.length_take]; omega)
  have hend : j = l.length → l.filterMap (rres1 L1 L2 L3 C) = (l.take j).filterMap (rres1 L1 L2 L3 C) := fun e => by rw [e, List.take_length]
  obtain ⟨O, hO⟩ : ∃ O, (l.take j).filterMap (rres1 L1 L2 L3 C) = O := ⟨_, rfl⟩
  rw [hO] at hnx hOl hend ⊢
  rcases Nat.lt_or_ge j l.length with hjl | hjl
  · have hne6 := hne6 (by omega)
    have hat := fun x (h : l.getD j [] = x) => sv_at hjl h
    obtain ⟨p, hp⟩ : ∃ p, l.getD j [] = p := ⟨_, rfl⟩
    have hat := hat p hp
    have hnx := hnx hjl p hp
    focus (refine S_seq rfl ?_; refine S_seq rfl ?_; refine S_region rfl rfl ?_; refine R_p rfl ?_ rfl rfl; refine R_p rfl ?_ rfl rfl; refine R_p rfl ?_ rfl rfl; refine R_take (T_decT rfl (by omega)) ?_ rfl rfl; refine R_nil ?_; refine S_true rfl rfl ?_; refine S_skip rfl ?_; refine S_seq rfl ?_; refine S_block rfl ?_; refine S_seq rfl ?_)
    refine S_draw ([row 9 1 A6 l.length c6 (l.map sv), pt b3 24 [.slice A3 L3.length c3'], pt b2 24 [.slice A2 L2.length c2'], pt b1 24 [.slice A1 L1.length c1']]) sub_st (by kernel_rfl) rfl (by kernel_rfl) (by kernel_rfl : _ = 24) ?_
    refine D_take 0 rfl (T_loada (ds := [.slice A1 L1.length c1']) rfl rfl rfl rfl (fun j v h => by simpa using h)) ?_ rfl rfl (by kernel_rfl) (by kernel_rfl)
    refine D_take 1 rfl (pev_ok rfl) ?_ rfl rfl (by kernel_rfl) (by kernel_rfl)
    refine D_take 2 rfl (pev_ok rfl) ?_ rfl rfl (by kernel_rfl) (by kernel_rfl)
    refine D_take 3 rfl (T_ixN rfl rfl rfl rfl rfl rfl hne6 hjl) ?_ rfl rfl (by kernel_rfl) (by kernel_rfl)
    refine D_take 4 rfl (T_ldr rfl rfl rfl (Srd.row (n := l.length) (c := c6)) (by omega) hat) ?_ rfl rfl (by kernel_rfl) (by kernel_rfl)
    refine D_take 6 rfl (T_loada (ds := [.slice A2 L2.length c2']) rfl rfl rfl rfl (fun j v h => by simpa using h)) ?_ rfl rfl (by kernel_rfl) (by kernel_rfl)
    refine D_take 7 rfl (pev_ok rfl) ?_ rfl rfl (by kernel_rfl) (by kernel_rfl)
    refine D_take 8 rfl (pev_ok rfl) ?_ rfl rfl (by kernel_rfl) (by kernel_rfl)
    refine D_take 9 rfl (T_ixN rfl rfl rfl rfl rfl rfl hne6 hjl) ?_ rfl rfl (by kernel_rfl) (by kernel_rfl)
    refine D_take 10 rfl (T_ldr rfl rfl rfl (Srd.row (n := l.length) (c := c6)) (by omega) hat) ?_ rfl rfl (by kernel_rfl) (by kernel_rfl)
    refine D_take 12 rfl (T_loada (ds := [.slice A3 L3.length c3']) rfl rfl rfl rfl (fun j v h => by simpa using h)) ?_ rfl rfl (by kernel_rfl) (by kernel_rfl)
    refine D_take 13 rfl (pev_ok rfl) ?_ rfl rfl (by kernel_rfl) (by kernel_rfl)
    refine D_take 14 rfl (pev_ok rfl) ?_ rfl rfl (by kernel_rfl) (by kernel_rfl)
    refine D_take 15 rfl (T_ixN rfl rfl rfl rfl rfl rfl hne6 hjl) ?_ rfl rfl (by kernel_rfl) (by kernel_rfl)
    refine D_take 16 rfl (T_ldr rfl rfl rfl (Srd.row (n := l.length) (c := c6)) (by omega) hat) ?_ rfl rfl (by kernel_rfl) (by kernel_rfl)
    refine D_node #[true, true, true, true, true, true, true, true, true, true, true, true, true, true, true, true, true, true, true, true, true, false, false, false] (fun x : Nat × Nat × Nat => [(14, .pointer (some ⟨x.2.2, 0, none⟩)), (13, .pointer (some ⟨x.2.1, 0, none⟩)), (12, .pointer (some ⟨x.1, 0, none⟩)), (47, .agg (sdc (sideOf L3 p)).toArray), (41, .agg (sdc (sideOf L2 p)).toArray), (35, .agg (sdc (sideOf L1 p)).toArray), (30, .agg #[.slice A1 L1.length c1']), (36, .agg #[.slice A2 L2.length c2']), (42, .agg #[.slice A3 L3.length c3']), (34, sv p), (40, sv p), (46, sv p), (4, .pointer (some ⟨b1, 0, none⟩)), (5, .pointer (some ⟨b2, 0, none⟩)), (6, .pointer (some ⟨b3, 0, none⟩)), (7, .pointer (some ⟨b4, 0, none⟩)), (8, .pointer (some ⟨b8, 0, none⟩)), (9, .pointer (some ⟨b9, 0, none⟩)), (10, .slice A6 l.length c6), (11, .int .i64 (j : Int))]) (fun x : Nat × Nat × Nat => [pt x.2.2 50 (sdc default), pt x.2.1 50 (sdc default), pt x.1 50 (sdc default), row 70 2 A8 O.length c8 (cellsL rwc O), row 9 1 A6 l.length c6 (l.map sv), pt b9 24 [.slice A8 O.length c8], pt b8 24 [.slice none 0 0], pt b4 29 [.slice A4 C.length c4], pt b3 24 [.slice A3 L3.length c3'], pt b2 24 [.slice A2 L2.length c2'], pt b1 24 [.slice A1 L1.length c1']]) (fun nd0 => ?_) (fun x => ?_)
    refine D_nodeR #[true, true, true, true, true, true, true, true, true, true, true, true, true, true, true, true, true, true, true, true, false, false, false, false] (fun x : Nat × Nat => [(13, .pointer (some ⟨x.2, 0, none⟩)), (12, .pointer (some ⟨x.1, 0, none⟩)), (47, .agg (sdc (sideOf L3 p)).toArray), (41, .agg (sdc (sideOf L2 p)).toArray), (35, .agg (sdc (sideOf L1 p)).toArray), (30, .agg #[.slice A1 L1.length c1']), (36, .agg #[.slice A2 L2.length c2']), (42, .agg #[.slice A3 L3.length c3']), (34, sv p), (40, sv p), (46, sv p), (4, .pointer (some ⟨b1, 0, none⟩)), (5, .pointer (some ⟨b2, 0, none⟩)), (6, .pointer (some ⟨b3, 0, none⟩)), (7, .pointer (some ⟨b4, 0, none⟩)), (8, .pointer (some ⟨b8, 0, none⟩)), (9, .pointer (some ⟨b9, 0, none⟩)), (10, .slice A6 l.length c6), (11, .int .i64 (j : Int))]) (fun x : Nat × Nat => [pt x.2 50 (sdc default), pt x.1 50 (sdc default), row 70 2 A8 O.length c8 (cellsL rwc O), row 9 1 A6 l.length c6 (l.map sv), pt b9 24 [.slice A8 O.length c8], pt b8 24 [.slice none 0 0], pt b4 29 [.slice A4 C.length c4], pt b3 24 [.slice A3 L3.length c3'], pt b2 24 [.slice A2 L2.length c2'], pt b1 24 [.slice A1 L1.length c1']]) (fun x => ?_) (fun nd1 => ?_)
    · skip
      obtain ⟨b12, b13⟩ := x
      try dsimp only
      refine D_one 20 rfl (E_alloca rfl sd_zero) ?_ rfl rfl (by kernel_rfl)
      rintro _ _ ⟨b14, rfl, rfl⟩
      refine Nx_same sub_st ?_
      have h := nd0 (b12, b13, b14)
      try dsimp only at h
      exact D_at h (by repeat first | exact Sub.nil | refine Sub.cons rfl ?_) sub_st (by kernel_rfl)
    refine D_nodeR #[true, true, true, true, true, true, true, true, true, true, true, true, true, true, true, true, true, true, true, false, true, false, false, false] (fun x : Nat × Nat => [(14, .pointer (some ⟨x.2, 0, none⟩)), (12, .pointer (some ⟨x.1, 0, none⟩)), (47, .agg (sdc (sideOf L3 p)).toArray), (41, .agg (sdc (sideOf L2 p)).toArray), (35, .agg (sdc (sideOf L1 p)).toArray), (30, .agg #[.slice A1 L1.length c1']), (36, .agg #[.slice A2 L2.length c2']), (42, .agg #[.slice A3 L3.length c3']), (34, sv p), (40, sv p), (46, sv p), (4, .pointer (some ⟨b1, 0, none⟩)), (5, .pointer (some ⟨b2, 0, none⟩)), (6, .pointer (some ⟨b3, 0, none⟩)), (7, .pointer (some ⟨b4, 0, none⟩)), (8, .pointer (some ⟨b8, 0, none⟩)), (9, .pointer (some ⟨b9, 0, none⟩)), (10, .slice A6 l.length c6), (11, .int .i64 (j : Int))]) (fun x : Nat × Nat => [pt x.2 50 (sdc default), pt x.1 50 (sdc default), row 70 2 A8 O.length c8 (cellsL rwc O), row 9 1 A6 l.length c6 (l.map sv), pt b9 24 [.slice A8 O.length c8], pt b8 24 [.slice none 0 0], pt b4 29 [.slice A4 C.length c4], pt b3 24 [.slice A3 L3.length c3'], pt b2 24 [.slice A2 L2.length c2'], pt b1 24 [.slice A1 L1.length c1']]) (fun x => ?_) (fun nd2 => ?_)
    · skip
      obtain ⟨b12, b14⟩ := x
      try dsimp only
      refine D_one 19 rfl (E_alloca rfl sd_zero) ?_ rfl rfl (by kernel_rfl)
      rintro _ _ ⟨b13, rfl, rfl⟩
      refine Nx_same sub_st ?_
      have h := nd0 (b12, b13, b14)
      try dsimp only at h
      exact D_at h (by repeat first | exact Sub.nil | refine Sub.cons rfl ?_) sub_st (by kernel_rfl)
    refine D_nodeR #[true, true, true, true, true, true, true, true, true, true, true, true, true, true, true, true, true, true, false, true, true, false, false, false] (fun x : Nat × Nat => [(14, .pointer (some ⟨x.2, 0, none⟩)), (13, .pointer (some ⟨x.1, 0, none⟩)), (47, .agg (sdc (sideOf L3 p)).toArray), (41, .agg (sdc (sideOf L2 p)).toArray), (35, .agg (sdc (sideOf L1 p)).toArray), (30, .agg #[.slice A1 L1.length c1']), (36, .agg #[.slice A2 L2.length c2']), (42, .agg #[.slice A3 L3.length c3']), (34, sv p), (40, sv p), (46, sv p), (4, .pointer (some ⟨b1, 0, none⟩)), (5, .pointer (some ⟨b2, 0, none⟩)), (6, .pointer (some ⟨b3, 0, none⟩)), (7, .pointer (some ⟨b4, 0, none⟩)), (8, .pointer (some ⟨b8, 0, none⟩)), (9, .pointer (some ⟨b9, 0, none⟩)), (10, .slice A6 l.length c6), (11, .int .i64 (j : Int))]) (fun x : Nat × Nat => [pt x.2 50 (sdc default), pt x.1 50 (sdc default), row 70 2 A8 O.length c8 (cellsL rwc O), row 9 1 A6 l.length c6 (l.map sv), pt b9 24 [.slice A8 O.length c8], pt b8 24 [.slice none 0 0], pt b4 29 [.slice A4 C.length c4], pt b3 24 [.slice A3 L3.length c3'], pt b2 24 [.slice A2 L2.length c2'], pt b1 24 [.slice A1 L1.length c1']]) (fun x => ?_) (fun nd3 => ?_)
    · skip
      obtain ⟨b13, b14⟩ := x
      try dsimp only
      refine D_one 18 rfl (E_alloca rfl sd_zero) ?_ rfl rfl (by kernel_rfl)
      rintro _ _ ⟨b12, rfl, rfl⟩
      refine Nx_same sub_st ?_
      have h := nd0 (b12, b13, b14)
      try dsimp only at h
      exact D_at h (by repeat first | exact Sub.nil | refine Sub.cons rfl ?_) sub_st (by kernel_rfl)
    refine D_nodeR #[true, true, true, true, true, true, true, true, true, true, true, true, true, true, true, true, true, false, true, true, true, false, false, false] (fun x : Nat × Nat × Nat => [(14, .pointer (some ⟨x.2.2, 0, none⟩)), (13, .pointer (some ⟨x.2.1, 0, none⟩)), (12, .pointer (some ⟨x.1, 0, none⟩)), (41, .agg (sdc (sideOf L2 p)).toArray), (35, .agg (sdc (sideOf L1 p)).toArray), (30, .agg #[.slice A1 L1.length c1']), (36, .agg #[.slice A2 L2.length c2']), (42, .agg #[.slice A3 L3.length c3']), (34, sv p), (40, sv p), (46, sv p), (4, .pointer (some ⟨b1, 0, none⟩)), (5, .pointer (some ⟨b2, 0, none⟩)), (6, .pointer (some ⟨b3, 0, none⟩)), (7, .pointer (some ⟨b4, 0, none⟩)), (8, .pointer (some ⟨b8, 0, none⟩)), (9, .pointer (some ⟨b9, 0, none⟩)), (10, .slice A6 l.length c6), (11, .int .i64 (j : Int))]) (fun x : Nat × Nat × Nat => [pt x.2.2 50 (sdc default), pt x.2.1 50 (sdc default), pt x.1 50 (sdc default), row 70 2 A8 O.length c8 (cellsL rwc O), row 9 1 A6 l.length c6 (l.map sv), pt b9 24 [.slice A8 O.length c8], pt b8 24 [.slice none 0 0], pt b4 29 [.slice A4 C.length c4], pt b3 24 [.slice A3 L3.length c3'], pt b2 24 [.slice A2 L2.length c2'], pt b1 24 [.slice A1 L1.length c1']]) (fun x => ?_) (fun nd4 => ?_)
    · skip
      obtain ⟨b12, b13, b14⟩ := x
      try dsimp only
      refine D_one 17 rfl (E_hv0 (f := 48) ⟨_, Try.func48, rfl, by kernel_rfl⟩ (fun w hS => rside_any w A3 L3.length c3' L3 p ((Srd.old h3 (fun k _ => noOwns k)).rd w hS) (by omega)) rfl rfl (fun _ => rfl)) ?_ rfl rfl (by kernel_rfl)
      rintro _ _ ⟨_, rfl, _, rfl⟩
      refine Nx_same sub_st ?_
      have h := nd0 (b12, b13, b14)
      try dsimp only at h
      exact D_at h (by repeat first | exact Sub.nil | refine Sub.cons rfl ?_) sub_st (by kernel_rfl)
    refine D_nodeR #[true, true, true, true, true, true, true, true, true, true, true, true, true, true, true, true, true, true, true, false, false, false, false, false] (fun x : Nat => [(12, .pointer (some ⟨x, 0, none⟩)), (47, .agg (sdc (sideOf L3 p)).toArray), (41, .agg (sdc (sideOf L2 p)).toArray), (35, .agg (sdc (sideOf L1 p)).toArray), (30, .agg #[.slice A1 L1.length c1']), (36, .agg #[.slice A2 L2.length c2']), (42, .agg #[.slice A3 L3.length c3']), (34, sv p), (40, sv p), (46, sv p), (4, .pointer (some ⟨b1, 0, none⟩)), (5, .pointer (some ⟨b2, 0, none⟩)), (6, .pointer (some ⟨b3, 0, none⟩)), (7, .pointer (some ⟨b4, 0, none⟩)), (8, .pointer (some ⟨b8, 0, none⟩)), (9, .pointer (some ⟨b9, 0, none⟩)), (10, .slice A6 l.length c6), (11, .int .i64 (j : Int))]) (fun x : Nat => [pt x 50 (sdc default), row 70 2 A8 O.length c8 (cellsL rwc O), row 9 1 A6 l.length c6 (l.map sv), pt b9 24 [.slice A8 O.length c8], pt b8 24 [.slice none 0 0], pt b4 29 [.slice A4 C.length c4], pt b3 24 [.slice A3 L3.length c3'], pt b2 24 [.slice A2 L2.length c2'], pt b1 24 [.slice A1 L1.length c1']]) (fun x => ?_) (fun nd5 => ?_)
    · skip
      revert x; intro b12
      try dsimp only
      refine D_two 19 20 (by decide) rfl rfl (E_alloca rfl sd_zero) (E_alloca rfl sd_zero) ?_ ?_ rfl rfl rfl rfl (by kernel_rfl)
      · rintro _ _ ⟨b13, rfl, rfl⟩
        refine Nx_same sub_st ?_
        have h := nd1 (b12, b13)
        try dsimp only at h
        exact D_at h (by repeat first | exact Sub.nil | refine Sub.cons rfl ?_) sub_st (by kernel_rfl)
      · rintro _ _ ⟨b14, rfl, rfl⟩
        refine Nx_same sub_st ?_
        have h := nd2 (b12, b14)
        try dsimp only at h
        exact D_at h (by repeat first | exact Sub.nil | refine Sub.cons rfl ?_) sub_st (by kernel_rfl)
    refine D_nodeR #[true, true, true, true, true, true, true, true, true, true, true, true, true, true, true, true, true, true, false, true, false, false, false, false] (fun x : Nat => [(13, .pointer (some ⟨x, 0, none⟩)), (47, .agg (sdc (sideOf L3 p)).toArray), (41, .agg (sdc (sideOf L2 p)).toArray), (35, .agg (sdc (sideOf L1 p)).toArray), (30, .agg #[.slice A1 L1.length c1']), (36, .agg #[.slice A2 L2.length c2']), (42, .agg #[.slice A3 L3.length c3']), (34, sv p), (40, sv p), (46, sv p), (4, .pointer (some ⟨b1, 0, none⟩)), (5, .pointer (some ⟨b2, 0, none⟩)), (6, .pointer (some ⟨b3, 0, none⟩)), (7, .pointer (some ⟨b4, 0, none⟩)), (8, .pointer (some ⟨b8, 0, none⟩)), (9, .pointer (some ⟨b9, 0, none⟩)), (10, .slice A6 l.length c6), (11, .int .i64 (j : Int))]) (fun x : Nat => [pt x 50 (sdc default), row 70 2 A8 O.length c8 (cellsL rwc O), row 9 1 A6 l.length c6 (l.map sv), pt b9 24 [.slice A8 O.length c8], pt b8 24 [.slice none 0 0], pt b4 29 [.slice A4 C.length c4], pt b3 24 [.slice A3 L3.length c3'], pt b2 24 [.slice A2 L2.length c2'], pt b1 24 [.slice A1 L1.length c1']]) (fun x => ?_) (fun nd6 => ?_)
    · skip
      revert x; intro b13
      try dsimp only
      refine D_two 18 20 (by decide) rfl rfl (E_alloca rfl sd_zero) (E_alloca rfl sd_zero) ?_ ?_ rfl rfl rfl rfl (by kernel_rfl)
      · rintro _ _ ⟨b12, rfl, rfl⟩
        refine Nx_same sub_st ?_
        have h := nd1 (b12, b13)
        try dsimp only at h
        exact D_at h (by repeat first | exact Sub.nil | refine Sub.cons rfl ?_) sub_st (by kernel_rfl)
      · rintro _ _ ⟨b14, rfl, rfl⟩
        refine Nx_same sub_st ?_
        have h := nd3 (b13, b14)
        try dsimp only at h
        exact D_at h (by repeat first | exact Sub.nil | refine Sub.cons rfl ?_) sub_st (by kernel_rfl)
    refine D_nodeR #[true, true, true, true, true, true, true, true, true, true, true, true, true, true, true, true, true, true, false, false, true, false, false, false] (fun x : Nat => [(14, .pointer (some ⟨x, 0, none⟩)), (47, .agg (sdc (sideOf L3 p)).toArray), (41, .agg (sdc (sideOf L2 p)).toArray), (35, .agg (sdc (sideOf L1 p)).toArray), (30, .agg #[.slice A1 L1.length c1']), (36, .agg #[.slice A2 L2.length c2']), (42, .agg #[.slice A3 L3.length c3']), (34, sv p), (40, sv p), (46, sv p), (4, .pointer (some ⟨b1, 0, none⟩)), (5, .pointer (some ⟨b2, 0, none⟩)), (6, .pointer (some ⟨b3, 0, none⟩)), (7, .pointer (some ⟨b4, 0, none⟩)), (8, .pointer (some ⟨b8, 0, none⟩)), (9, .pointer (some ⟨b9, 0, none⟩)), (10, .slice A6 l.length c6), (11, .int .i64 (j : Int))]) (fun x : Nat => [pt x 50 (sdc default), row 70 2 A8 O.length c8 (cellsL rwc O), row 9 1 A6 l.length c6 (l.map sv), pt b9 24 [.slice A8 O.length c8], pt b8 24 [.slice none 0 0], pt b4 29 [.slice A4 C.length c4], pt b3 24 [.slice A3 L3.length c3'], pt b2 24 [.slice A2 L2.length c2'], pt b1 24 [.slice A1 L1.length c1']]) (fun x => ?_) (fun nd7 => ?_)
    · skip
      revert x; intro b14
      try dsimp only
      refine D_two 18 19 (by decide) rfl rfl (E_alloca rfl sd_zero) (E_alloca rfl sd_zero) ?_ ?_ rfl rfl rfl rfl (by kernel_rfl)
      · rintro _ _ ⟨b12, rfl, rfl⟩
        refine Nx_same sub_st ?_
        have h := nd2 (b12, b14)
        try dsimp only at h
        exact D_at h (by repeat first | exact Sub.nil | refine Sub.cons rfl ?_) sub_st (by kernel_rfl)
      · rintro _ _ ⟨b13, rfl, rfl⟩
        refine Nx_same sub_st ?_
        have h := nd3 (b13, b14)
        try dsimp only at h
        exact D_at h (by repeat first | exact Sub.nil | refine Sub.cons rfl ?_) sub_st (by kernel_rfl)
    refine D_nodeR #[true, true, true, true, true, true, true, true, true, true, true, true, true, true, true, true, true, false, true, true, false, false, false, false] (fun x : Nat × Nat => [(13, .pointer (some ⟨x.2, 0, none⟩)), (12, .pointer (some ⟨x.1, 0, none⟩)), (41, .agg (sdc (sideOf L2 p)).toArray), (35, .agg (sdc (sideOf L1 p)).toArray), (30, .agg #[.slice A1 L1.length c1']), (36, .agg #[.slice A2 L2.length c2']), (42, .agg #[.slice A3 L3.length c3']), (34, sv p), (40, sv p), (46, sv p), (4, .pointer (some ⟨b1, 0, none⟩)), (5, .pointer (some ⟨b2, 0, none⟩)), (6, .pointer (some ⟨b3, 0, none⟩)), (7, .pointer (some ⟨b4, 0, none⟩)), (8, .pointer (some ⟨b8, 0, none⟩)), (9, .pointer (some ⟨b9, 0, none⟩)), (10, .slice A6 l.length c6), (11, .int .i64 (j : Int))]) (fun x : Nat × Nat => [pt x.2 50 (sdc default), pt x.1 50 (sdc default), row 70 2 A8 O.length c8 (cellsL rwc O), row 9 1 A6 l.length c6 (l.map sv), pt b9 24 [.slice A8 O.length c8], pt b8 24 [.slice none 0 0], pt b4 29 [.slice A4 C.length c4], pt b3 24 [.slice A3 L3.length c3'], pt b2 24 [.slice A2 L2.length c2'], pt b1 24 [.slice A1 L1.length c1']]) (fun x => ?_) (fun nd8 => ?_)
    · skip
      obtain ⟨b12, b13⟩ := x
      try dsimp only
      refine D_two 17 20 (by decide) rfl rfl (E_hv0 (f := 48) ⟨_, Try.func48, rfl, by kernel_rfl⟩ (fun w hS => rside_any w A3 L3.length c3' L3 p ((Srd.old h3 (fun k _ => noOwns k)).rd w hS) (by omega)) rfl rfl (fun _ => rfl)) (E_alloca rfl sd_zero) ?_ ?_ rfl rfl rfl rfl (by kernel_rfl)
      · rintro _ _ ⟨_, rfl, _, rfl⟩
        refine Nx_same sub_st ?_
        have h := nd1 (b12, b13)
        try dsimp only at h
        exact D_at h (by repeat first | exact Sub.nil | refine Sub.cons rfl ?_) sub_st (by kernel_rfl)
      · rintro _ _ ⟨b14, rfl, rfl⟩
        refine Nx_same sub_st ?_
        have h := nd4 (b12, b13, b14)
        try dsimp only at h
        exact D_at h (by repeat first | exact Sub.nil | refine Sub.cons rfl ?_) sub_st (by kernel_rfl)
    refine D_nodeR #[true, true, true, true, true, true, true, true, true, true, true, true, true, true, true, true, true, false, true, false, true, false, false, false] (fun x : Nat × Nat => [(14, .pointer (some ⟨x.2, 0, none⟩)), (12, .pointer (some ⟨x.1, 0, none⟩)), (41, .agg (sdc (sideOf L2 p)).toArray), (35, .agg (sdc (sideOf L1 p)).toArray), (30, .agg #[.slice A1 L1.length c1']), (36, .agg #[.slice A2 L2.length c2']), (42, .agg #[.slice A3 L3.length c3']), (34, sv p), (40, sv p), (46, sv p), (4, .pointer (some ⟨b1, 0, none⟩)), (5, .pointer (some ⟨b2, 0, none⟩)), (6, .pointer (some ⟨b3, 0, none⟩)), (7, .pointer (some ⟨b4, 0, none⟩)), (8, .pointer (some ⟨b8, 0, none⟩)), (9, .pointer (some ⟨b9, 0, none⟩)), (10, .slice A6 l.length c6), (11, .int .i64 (j : Int))]) (fun x : Nat × Nat => [pt x.2 50 (sdc default), pt x.1 50 (sdc default), row 70 2 A8 O.length c8 (cellsL rwc O), row 9 1 A6 l.length c6 (l.map sv), pt b9 24 [.slice A8 O.length c8], pt b8 24 [.slice none 0 0], pt b4 29 [.slice A4 C.length c4], pt b3 24 [.slice A3 L3.length c3'], pt b2 24 [.slice A2 L2.length c2'], pt b1 24 [.slice A1 L1.length c1']]) (fun x => ?_) (fun nd9 => ?_)
    · skip
      obtain ⟨b12, b14⟩ := x
      try dsimp only
      refine D_two 17 19 (by decide) rfl rfl (E_hv0 (f := 48) ⟨_, Try.func48, rfl, by kernel_rfl⟩ (fun w hS => rside_any w A3 L3.length c3' L3 p ((Srd.old h3 (fun k _ => noOwns k)).rd w hS) (by omega)) rfl rfl (fun _ => rfl)) (E_alloca rfl sd_zero) ?_ ?_ rfl rfl rfl rfl (by kernel_rfl)
      · rintro _ _ ⟨_, rfl, _, rfl⟩
        refine Nx_same sub_st ?_
        have h := nd2 (b12, b14)
        try dsimp only at h
        exact D_at h (by repeat first | exact Sub.nil | refine Sub.cons rfl ?_) sub_st (by kernel_rfl)
      · rintro _ _ ⟨b13, rfl, rfl⟩
        refine Nx_same sub_st ?_
        have h := nd4 (b12, b13, b14)
        try dsimp only at h
        exact D_at h (by repeat first | exact Sub.nil | refine Sub.cons rfl ?_) sub_st (by kernel_rfl)
    refine D_nodeR #[true, true, true, true, true, true, true, true, true, true, true, true, true, true, true, true, true, false, false, true, true, false, false, false] (fun x : Nat × Nat => [(14, .pointer (some ⟨x.2, 0, none⟩)), (13, .pointer (some ⟨x.1, 0, none⟩)), (41, .agg (sdc (sideOf L2 p)).toArray), (35, .agg (sdc (sideOf L1 p)).toArray), (30, .agg #[.slice A1 L1.length c1']), (36, .agg #[.slice A2 L2.length c2']), (42, .agg #[.slice A3 L3.length c3']), (34, sv p), (40, sv p), (46, sv p), (4, .pointer (some ⟨b1, 0, none⟩)), (5, .pointer (some ⟨b2, 0, none⟩)), (6, .pointer (some ⟨b3, 0, none⟩)), (7, .pointer (some ⟨b4, 0, none⟩)), (8, .pointer (some ⟨b8, 0, none⟩)), (9, .pointer (some ⟨b9, 0, none⟩)), (10, .slice A6 l.length c6), (11, .int .i64 (j : Int))]) (fun x : Nat × Nat => [pt x.2 50 (sdc default), pt x.1 50 (sdc default), row 70 2 A8 O.length c8 (cellsL rwc O), row 9 1 A6 l.length c6 (l.map sv), pt b9 24 [.slice A8 O.length c8], pt b8 24 [.slice none 0 0], pt b4 29 [.slice A4 C.length c4], pt b3 24 [.slice A3 L3.length c3'], pt b2 24 [.slice A2 L2.length c2'], pt b1 24 [.slice A1 L1.length c1']]) (fun x => ?_) (fun nd10 => ?_)
    · skip
      obtain ⟨b13, b14⟩ := x
      try dsimp only
      refine D_two 17 18 (by decide) rfl rfl (E_hv0 (f := 48) ⟨_, Try.func48, rfl, by kernel_rfl⟩ (fun w hS => rside_any w A3 L3.length c3' L3 p ((Srd.old h3 (fun k _ => noOwns k)).rd w hS) (by omega)) rfl rfl (fun _ => rfl)) (E_alloca rfl sd_zero) ?_ ?_ rfl rfl rfl rfl (by kernel_rfl)
      · rintro _ _ ⟨_, rfl, _, rfl⟩
        refine Nx_same sub_st ?_
        have h := nd3 (b13, b14)
        try dsimp only at h
        exact D_at h (by repeat first | exact Sub.nil | refine Sub.cons rfl ?_) sub_st (by kernel_rfl)
      · rintro _ _ ⟨b12, rfl, rfl⟩
        refine Nx_same sub_st ?_
        have h := nd4 (b12, b13, b14)
        try dsimp only at h
        exact D_at h (by repeat first | exact Sub.nil | refine Sub.cons rfl ?_) sub_st (by kernel_rfl)
    refine D_nodeR #[true, true, true, true, true, true, true, true, true, true, true, false, true, true, true, true, true, false, true, true, true, false, false, false] (fun x : Nat × Nat × Nat => [(14, .pointer (some ⟨x.2.2, 0, none⟩)), (13, .pointer (some ⟨x.2.1, 0, none⟩)), (12, .pointer (some ⟨x.1, 0, none⟩)), (35, .agg (sdc (sideOf L1 p)).toArray), (30, .agg #[.slice A1 L1.length c1']), (36, .agg #[.slice A2 L2.length c2']), (42, .agg #[.slice A3 L3.length c3']), (34, sv p), (40, sv p), (46, sv p), (4, .pointer (some ⟨b1, 0, none⟩)), (5, .pointer (some ⟨b2, 0, none⟩)), (6, .pointer (some ⟨b3, 0, none⟩)), (7, .pointer (some ⟨b4, 0, none⟩)), (8, .pointer (some ⟨b8, 0, none⟩)), (9, .pointer (some ⟨b9, 0, none⟩)), (10, .slice A6 l.length c6), (11, .int .i64 (j : Int))]) (fun x : Nat × Nat × Nat => [pt x.2.2 50 (sdc default), pt x.2.1 50 (sdc default), pt x.1 50 (sdc default), row 70 2 A8 O.length c8 (cellsL rwc O), row 9 1 A6 l.length c6 (l.map sv), pt b9 24 [.slice A8 O.length c8], pt b8 24 [.slice none 0 0], pt b4 29 [.slice A4 C.length c4], pt b3 24 [.slice A3 L3.length c3'], pt b2 24 [.slice A2 L2.length c2'], pt b1 24 [.slice A1 L1.length c1']]) (fun x => ?_) (fun nd11 => ?_)
    · skip
      obtain ⟨b12, b13, b14⟩ := x
      try dsimp only
      refine D_one 11 rfl (E_hv0 (f := 48) ⟨_, Try.func48, rfl, by kernel_rfl⟩ (fun w hS => rside_any w A2 L2.length c2' L2 p ((Srd.old h2 (fun k _ => noOwns k)).rd w hS) (by omega)) rfl rfl (fun _ => rfl)) ?_ rfl rfl (by kernel_rfl)
      rintro _ _ ⟨_, rfl, _, rfl⟩
      refine Nx_same sub_st ?_
      have h := nd4 (b12, b13, b14)
      try dsimp only at h
      exact D_at h (by repeat first | exact Sub.nil | refine Sub.cons rfl ?_) sub_st (by kernel_rfl)
    refine D_nodeR #[true, true, true, true, true, true, true, true, true, true, true, true, true, true, true, true, true, true, false, false, false, false, false, false] (fun _ : Unit => [(47, .agg (sdc (sideOf L3 p)).toArray), (41, .agg (sdc (sideOf L2 p)).toArray), (35, .agg (sdc (sideOf L1 p)).toArray), (30, .agg #[.slice A1 L1.length c1']), (36, .agg #[.slice A2 L2.length c2']), (42, .agg #[.slice A3 L3.length c3']), (34, sv p), (40, sv p), (46, sv p), (4, .pointer (some ⟨b1, 0, none⟩)), (5, .pointer (some ⟨b2, 0, none⟩)), (6, .pointer (some ⟨b3, 0, none⟩)), (7, .pointer (some ⟨b4, 0, none⟩)), (8, .pointer (some ⟨b8, 0, none⟩)), (9, .pointer (some ⟨b9, 0, none⟩)), (10, .slice A6 l.length c6), (11, .int .i64 (j : Int))]) (fun _ : Unit => [row 70 2 A8 O.length c8 (cellsL rwc O), row 9 1 A6 l.length c6 (l.map sv), pt b9 24 [.slice A8 O.length c8], pt b8 24 [.slice none 0 0], pt b4 29 [.slice A4 C.length c4], pt b3 24 [.slice A3 L3.length c3'], pt b2 24 [.slice A2 L2.length c2'], pt b1 24 [.slice A1 L1.length c1']]) (fun x => ?_) (fun nd12 => ?_)
    · skip
      obtain ⟨⟩ := x
      try dsimp only
      refine D_three 18 19 20 rfl rfl rfl (E_alloca rfl sd_zero) (E_alloca rfl sd_zero) (E_alloca rfl sd_zero) ?_ ?_ ?_ rfl rfl rfl rfl rfl rfl (by kernel_rfl)
      · rintro _ _ ⟨b12, rfl, rfl⟩
        refine Nx_same sub_st ?_
        have h := nd5 (b12)
        try dsimp only at h
        exact D_at h (by repeat first | exact Sub.nil | refine Sub.cons rfl ?_) sub_st (by kernel_rfl)
      · rintro _ _ ⟨b13, rfl, rfl⟩
        refine Nx_same sub_st ?_
        have h := nd6 (b13)
        try dsimp only at h
        exact D_at h (by repeat first | exact Sub.nil | refine Sub.cons rfl ?_) sub_st (by kernel_rfl)
      · rintro _ _ ⟨b14, rfl, rfl⟩
        refine Nx_same sub_st ?_
        have h := nd7 (b14)
        try dsimp only at h
        exact D_at h (by repeat first | exact Sub.nil | refine Sub.cons rfl ?_) sub_st (by kernel_rfl)
    refine D_nodeR #[true, true, true, true, true, true, true, true, true, true, true, true, true, true, true, true, true, false, true, false, false, false, false, false] (fun x : Nat => [(12, .pointer (some ⟨x, 0, none⟩)), (41, .agg (sdc (sideOf L2 p)).toArray), (35, .agg (sdc (sideOf L1 p)).toArray), (30, .agg #[.slice A1 L1.length c1']), (36, .agg #[.slice A2 L2.length c2']), (42, .agg #[.slice A3 L3.length c3']), (34, sv p), (40, sv p), (46, sv p), (4, .pointer (some ⟨b1, 0, none⟩)), (5, .pointer (some ⟨b2, 0, none⟩)), (6, .pointer (some ⟨b3, 0, none⟩)), (7, .pointer (some ⟨b4, 0, none⟩)), (8, .pointer (some ⟨b8, 0, none⟩)), (9, .pointer (some ⟨b9, 0, none⟩)), (10, .slice A6 l.length c6), (11, .int .i64 (j : Int))]) (fun x : Nat => [pt x 50 (sdc default), row 70 2 A8 O.length c8 (cellsL rwc O), row 9 1 A6 l.length c6 (l.map sv), pt b9 24 [.slice A8 O.length c8], pt b8 24 [.slice none 0 0], pt b4 29 [.slice A4 C.length c4], pt b3 24 [.slice A3 L3.length c3'], pt b2 24 [.slice A2 L2.length c2'], pt b1 24 [.slice A1 L1.length c1']]) (fun x => ?_) (fun nd13 => ?_)
    · skip
      revert x; intro b12
      try dsimp only
      refine D_three 17 19 20 rfl rfl rfl (E_hv0 (f := 48) ⟨_, Try.func48, rfl, by kernel_rfl⟩ (fun w hS => rside_any w A3 L3.length c3' L3 p ((Srd.old h3 (fun k _ => noOwns k)).rd w hS) (by omega)) rfl rfl (fun _ => rfl)) (E_alloca rfl sd_zero) (E_alloca rfl sd_zero) ?_ ?_ ?_ rfl rfl rfl rfl rfl rfl (by kernel_rfl)
      · rintro _ _ ⟨_, rfl, _, rfl⟩
        refine Nx_same sub_st ?_
        have h := nd5 (b12)
        try dsimp only at h
        exact D_at h (by repeat first | exact Sub.nil | refine Sub.cons rfl ?_) sub_st (by kernel_rfl)
      · rintro _ _ ⟨b13, rfl, rfl⟩
        refine Nx_same sub_st ?_
        have h := nd8 (b12, b13)
        try dsimp only at h
        exact D_at h (by repeat first | exact Sub.nil | refine Sub.cons rfl ?_) sub_st (by kernel_rfl)
      · rintro _ _ ⟨b14, rfl, rfl⟩
        refine Nx_same sub_st ?_
        have h := nd9 (b12, b14)
        try dsimp only at h
        exact D_at h (by repeat first | exact Sub.nil | refine Sub.cons rfl ?_) sub_st (by kernel_rfl)
    refine D_nodeR #[true, true, true, true, true, true, true, true, true, true, true, true, true, true, true, true, true, false, false, true, false, false, false, false] (fun x : Nat => [(13, .pointer (some ⟨x, 0, none⟩)), (41, .agg (sdc (sideOf L2 p)).toArray), (35, .agg (sdc (sideOf L1 p)).toArray), (30, .agg #[.slice A1 L1.length c1']), (36, .agg #[.slice A2 L2.length c2']), (42, .agg #[.slice A3 L3.length c3']), (34, sv p), (40, sv p), (46, sv p), (4, .pointer (some ⟨b1, 0, none⟩)), (5, .pointer (some ⟨b2, 0, none⟩)), (6, .pointer (some ⟨b3, 0, none⟩)), (7, .pointer (some ⟨b4, 0, none⟩)), (8, .pointer (some ⟨b8, 0, none⟩)), (9, .pointer (some ⟨b9, 0, none⟩)), (10, .slice A6 l.length c6), (11, .int .i64 (j : Int))]) (fun x : Nat => [pt x 50 (sdc default), row 70 2 A8 O.length c8 (cellsL rwc O), row 9 1 A6 l.length c6 (l.map sv), pt b9 24 [.slice A8 O.length c8], pt b8 24 [.slice none 0 0], pt b4 29 [.slice A4 C.length c4], pt b3 24 [.slice A3 L3.length c3'], pt b2 24 [.slice A2 L2.length c2'], pt b1 24 [.slice A1 L1.length c1']]) (fun x => ?_) (fun nd14 => ?_)
    · skip
      revert x; intro b13
      try dsimp only
      refine D_three 17 18 20 rfl rfl rfl (E_hv0 (f := 48) ⟨_, Try.func48, rfl, by kernel_rfl⟩ (fun w hS => rside_any w A3 L3.length c3' L3 p ((Srd.old h3 (fun k _ => noOwns k)).rd w hS) (by omega)) rfl rfl (fun _ => rfl)) (E_alloca rfl sd_zero) (E_alloca rfl sd_zero) ?_ ?_ ?_ rfl rfl rfl rfl rfl rfl (by kernel_rfl)
      · rintro _ _ ⟨_, rfl, _, rfl⟩
        refine Nx_same sub_st ?_
        have h := nd6 (b13)
        try dsimp only at h
        exact D_at h (by repeat first | exact Sub.nil | refine Sub.cons rfl ?_) sub_st (by kernel_rfl)
      · rintro _ _ ⟨b12, rfl, rfl⟩
        refine Nx_same sub_st ?_
        have h := nd8 (b12, b13)
        try dsimp only at h
        exact D_at h (by repeat first | exact Sub.nil | refine Sub.cons rfl ?_) sub_st (by kernel_rfl)
      · rintro _ _ ⟨b14, rfl, rfl⟩
        refine Nx_same sub_st ?_
        have h := nd10 (b13, b14)
        try dsimp only at h
        exact D_at h (by repeat first | exact Sub.nil | refine Sub.cons rfl ?_) sub_st (by kernel_rfl)
    refine D_nodeR #[true, true, true, true, true, true, true, true, true, true, true, true, true, true, true, true, true, false, false, false, true, false, false, false] (fun x : Nat => [(14, .pointer (some ⟨x, 0, none⟩)), (41, .agg (sdc (sideOf L2 p)).toArray), (35, .agg (sdc (sideOf L1 p)).toArray), (30, .agg #[.slice A1 L1.length c1']), (36, .agg #[.slice A2 L2.length c2']), (42, .agg #[.slice A3 L3.length c3']), (34, sv p), (40, sv p), (46, sv p), (4, .pointer (some ⟨b1, 0, none⟩)), (5, .pointer (some ⟨b2, 0, none⟩)), (6, .pointer (some ⟨b3, 0, none⟩)), (7, .pointer (some ⟨b4, 0, none⟩)), (8, .pointer (some ⟨b8, 0, none⟩)), (9, .pointer (some ⟨b9, 0, none⟩)), (10, .slice A6 l.length c6), (11, .int .i64 (j : Int))]) (fun x : Nat => [pt x 50 (sdc default), row 70 2 A8 O.length c8 (cellsL rwc O), row 9 1 A6 l.length c6 (l.map sv), pt b9 24 [.slice A8 O.length c8], pt b8 24 [.slice none 0 0], pt b4 29 [.slice A4 C.length c4], pt b3 24 [.slice A3 L3.length c3'], pt b2 24 [.slice A2 L2.length c2'], pt b1 24 [.slice A1 L1.length c1']]) (fun x => ?_) (fun nd15 => ?_)
    · skip
      revert x; intro b14
      try dsimp only
      refine D_three 17 18 19 rfl rfl rfl (E_hv0 (f := 48) ⟨_, Try.func48, rfl, by kernel_rfl⟩ (fun w hS => rside_any w A3 L3.length c3' L3 p ((Srd.old h3 (fun k _ => noOwns k)).rd w hS) (by omega)) rfl rfl (fun _ => rfl)) (E_alloca rfl sd_zero) (E_alloca rfl sd_zero) ?_ ?_ ?_ rfl rfl rfl rfl rfl rfl (by kernel_rfl)
      · rintro _ _ ⟨_, rfl, _, rfl⟩
        refine Nx_same sub_st ?_
        have h := nd7 (b14)
        try dsimp only at h
        exact D_at h (by repeat first | exact Sub.nil | refine Sub.cons rfl ?_) sub_st (by kernel_rfl)
      · rintro _ _ ⟨b12, rfl, rfl⟩
        refine Nx_same sub_st ?_
        have h := nd9 (b12, b14)
        try dsimp only at h
        exact D_at h (by repeat first | exact Sub.nil | refine Sub.cons rfl ?_) sub_st (by kernel_rfl)
      · rintro _ _ ⟨b13, rfl, rfl⟩
        refine Nx_same sub_st ?_
        have h := nd10 (b13, b14)
        try dsimp only at h
        exact D_at h (by repeat first | exact Sub.nil | refine Sub.cons rfl ?_) sub_st (by kernel_rfl)
    refine D_nodeR #[true, true, true, true, true, true, true, true, true, true, true, false, true, true, true, true, true, false, true, true, false, false, false, false] (fun x : Nat × Nat => [(13, .pointer (some ⟨x.2, 0, none⟩)), (12, .pointer (some ⟨x.1, 0, none⟩)), (35, .agg (sdc (sideOf L1 p)).toArray), (30, .agg #[.slice A1 L1.length c1']), (36, .agg #[.slice A2 L2.length c2']), (42, .agg #[.slice A3 L3.length c3']), (34, sv p), (40, sv p), (46, sv p), (4, .pointer (some ⟨b1, 0, none⟩)), (5, .pointer (some ⟨b2, 0, none⟩)), (6, .pointer (some ⟨b3, 0, none⟩)), (7, .pointer (some ⟨b4, 0, none⟩)), (8, .pointer (some ⟨b8, 0, none⟩)), (9, .pointer (some ⟨b9, 0, none⟩)), (10, .slice A6 l.length c6), (11, .int .i64 (j : Int))]) (fun x : Nat × Nat => [pt x.2 50 (sdc default), pt x.1 50 (sdc default), row 70 2 A8 O.length c8 (cellsL rwc O), row 9 1 A6 l.length c6 (l.map sv), pt b9 24 [.slice A8 O.length c8], pt b8 24 [.slice none 0 0], pt b4 29 [.slice A4 C.length c4], pt b3 24 [.slice A3 L3.length c3'], pt b2 24 [.slice A2 L2.length c2'], pt b1 24 [.slice A1 L1.length c1']]) (fun x => ?_) (fun nd16 => ?_)
    · skip
      obtain ⟨b12, b13⟩ := x
      try dsimp only
      refine D_two 11 20 (by decide) rfl rfl (E_hv0 (f := 48) ⟨_, Try.func48, rfl, by kernel_rfl⟩ (fun w hS => rside_any w A2 L2.length c2' L2 p ((Srd.old h2 (fun k _ => noOwns k)).rd w hS) (by omega)) rfl rfl (fun _ => rfl)) (E_alloca rfl sd_zero) ?_ ?_ rfl rfl rfl rfl (by kernel_rfl)
      · rintro _ _ ⟨_, rfl, _, rfl⟩
        refine Nx_same sub_st ?_
        have h := nd8 (b12, b13)
        try dsimp only at h
        exact D_at h (by repeat first | exact Sub.nil | refine Sub.cons rfl ?_) sub_st (by kernel_rfl)
      · rintro _ _ ⟨b14, rfl, rfl⟩
        refine Nx_same sub_st ?_
        have h := nd11 (b12, b13, b14)
        try dsimp only at h
        exact D_at h (by repeat first | exact Sub.nil | refine Sub.cons rfl ?_) sub_st (by kernel_rfl)
    refine D_nodeR #[true, true, true, true, true, true, true, true, true, true, true, false, true, true, true, true, true, false, true, false, true, false, false, false] (fun x : Nat × Nat => [(14, .pointer (some ⟨x.2, 0, none⟩)), (12, .pointer (some ⟨x.1, 0, none⟩)), (35, .agg (sdc (sideOf L1 p)).toArray), (30, .agg #[.slice A1 L1.length c1']), (36, .agg #[.slice A2 L2.length c2']), (42, .agg #[.slice A3 L3.length c3']), (34, sv p), (40, sv p), (46, sv p), (4, .pointer (some ⟨b1, 0, none⟩)), (5, .pointer (some ⟨b2, 0, none⟩)), (6, .pointer (some ⟨b3, 0, none⟩)), (7, .pointer (some ⟨b4, 0, none⟩)), (8, .pointer (some ⟨b8, 0, none⟩)), (9, .pointer (some ⟨b9, 0, none⟩)), (10, .slice A6 l.length c6), (11, .int .i64 (j : Int))]) (fun x : Nat × Nat => [pt x.2 50 (sdc default), pt x.1 50 (sdc default), row 70 2 A8 O.length c8 (cellsL rwc O), row 9 1 A6 l.length c6 (l.map sv), pt b9 24 [.slice A8 O.length c8], pt b8 24 [.slice none 0 0], pt b4 29 [.slice A4 C.length c4], pt b3 24 [.slice A3 L3.length c3'], pt b2 24 [.slice A2 L2.length c2'], pt b1 24 [.slice A1 L1.length c1']]) (fun x => ?_) (fun nd17 => ?_)
    · skip
      obtain ⟨b12, b14⟩ := x
      try dsimp only
      refine D_two 11 19 (by decide) rfl rfl (E_hv0 (f := 48) ⟨_, Try.func48, rfl, by kernel_rfl⟩ (fun w hS => rside_any w A2 L2.length c2' L2 p ((Srd.old h2 (fun k _ => noOwns k)).rd w hS) (by omega)) rfl rfl (fun _ => rfl)) (E_alloca rfl sd_zero) ?_ ?_ rfl rfl rfl rfl (by kernel_rfl)
      · rintro _ _ ⟨_, rfl, _, rfl⟩
        refine Nx_same sub_st ?_
        have h := nd9 (b12, b14)
        try dsimp only at h
        exact D_at h (by repeat first | exact Sub.nil | refine Sub.cons rfl ?_) sub_st (by kernel_rfl)
      · rintro _ _ ⟨b13, rfl, rfl⟩
        refine Nx_same sub_st ?_
        have h := nd11 (b12, b13, b14)
        try dsimp only at h
        exact D_at h (by repeat first | exact Sub.nil | refine Sub.cons rfl ?_) sub_st (by kernel_rfl)
    refine D_nodeR #[true, true, true, true, true, true, true, true, true, true, true, false, true, true, true, true, true, false, false, true, true, false, false, false] (fun x : Nat × Nat => [(14, .pointer (some ⟨x.2, 0, none⟩)), (13, .pointer (some ⟨x.1, 0, none⟩)), (35, .agg (sdc (sideOf L1 p)).toArray), (30, .agg #[.slice A1 L1.length c1']), (36, .agg #[.slice A2 L2.length c2']), (42, .agg #[.slice A3 L3.length c3']), (34, sv p), (40, sv p), (46, sv p), (4, .pointer (some ⟨b1, 0, none⟩)), (5, .pointer (some ⟨b2, 0, none⟩)), (6, .pointer (some ⟨b3, 0, none⟩)), (7, .pointer (some ⟨b4, 0, none⟩)), (8, .pointer (some ⟨b8, 0, none⟩)), (9, .pointer (some ⟨b9, 0, none⟩)), (10, .slice A6 l.length c6), (11, .int .i64 (j : Int))]) (fun x : Nat × Nat => [pt x.2 50 (sdc default), pt x.1 50 (sdc default), row 70 2 A8 O.length c8 (cellsL rwc O), row 9 1 A6 l.length c6 (l.map sv), pt b9 24 [.slice A8 O.length c8], pt b8 24 [.slice none 0 0], pt b4 29 [.slice A4 C.length c4], pt b3 24 [.slice A3 L3.length c3'], pt b2 24 [.slice A2 L2.length c2'], pt b1 24 [.slice A1 L1.length c1']]) (fun x => ?_) (fun nd18 => ?_)
    · skip
      obtain ⟨b13, b14⟩ := x
      try dsimp only
      refine D_two 11 18 (by decide) rfl rfl (E_hv0 (f := 48) ⟨_, Try.func48, rfl, by kernel_rfl⟩ (fun w hS => rside_any w A2 L2.length c2' L2 p ((Srd.old h2 (fun k _ => noOwns k)).rd w hS) (by omega)) rfl rfl (fun _ => rfl)) (E_alloca rfl sd_zero) ?_ ?_ rfl rfl rfl rfl (by kernel_rfl)
      · rintro _ _ ⟨_, rfl, _, rfl⟩
        refine Nx_same sub_st ?_
        have h := nd10 (b13, b14)
        try dsimp only at h
        exact D_at h (by repeat first | exact Sub.nil | refine Sub.cons rfl ?_) sub_st (by kernel_rfl)
      · rintro _ _ ⟨b12, rfl, rfl⟩
        refine Nx_same sub_st ?_
        have h := nd11 (b12, b13, b14)
        try dsimp only at h
        exact D_at h (by repeat first | exact Sub.nil | refine Sub.cons rfl ?_) sub_st (by kernel_rfl)
    refine D_nodeR #[true, true, true, true, true, false, true, true, true, true, true, false, true, true, true, true, true, false, true, true, true, false, false, false] (fun x : Nat × Nat × Nat => [(14, .pointer (some ⟨x.2.2, 0, none⟩)), (13, .pointer (some ⟨x.2.1, 0, none⟩)), (12, .pointer (some ⟨x.1, 0, none⟩)), (30, .agg #[.slice A1 L1.length c1']), (36, .agg #[.slice A2 L2.length c2']), (42, .agg #[.slice A3 L3.length c3']), (34, sv p), (40, sv p), (46, sv p), (4, .pointer (some ⟨b1, 0, none⟩)), (5, .pointer (some ⟨b2, 0, none⟩)), (6, .pointer (some ⟨b3, 0, none⟩)), (7, .pointer (some ⟨b4, 0, none⟩)), (8, .pointer (some ⟨b8, 0, none⟩)), (9, .pointer (some ⟨b9, 0, none⟩)), (10, .slice A6 l.length c6), (11, .int .i64 (j : Int))]) (fun x : Nat × Nat × Nat => [pt x.2.2 50 (sdc default), pt x.2.1 50 (sdc default), pt x.1 50 (sdc default), row 70 2 A8 O.length c8 (cellsL rwc O), row 9 1 A6 l.length c6 (l.map sv), pt b9 24 [.slice A8 O.length c8], pt b8 24 [.slice none 0 0], pt b4 29 [.slice A4 C.length c4], pt b3 24 [.slice A3 L3.length c3'], pt b2 24 [.slice A2 L2.length c2'], pt b1 24 [.slice A1 L1.length c1']]) (fun x => ?_) (fun nd19 => ?_)
    · skip
      obtain ⟨b12, b13, b14⟩ := x
      try dsimp only
      refine D_one 5 rfl (E_hv0 (f := 48) ⟨_, Try.func48, rfl, by kernel_rfl⟩ (fun w hS => rside_any w A1 L1.length c1' L1 p ((Srd.old h1 (fun k _ => noOwns k)).rd w hS) (by omega)) rfl rfl (fun _ => rfl)) ?_ rfl rfl (by kernel_rfl)
      rintro _ _ ⟨_, rfl, _, rfl⟩
      refine Nx_same sub_st ?_
      have h := nd11 (b12, b13, b14)
      try dsimp only at h
      exact D_at h (by repeat first | exact Sub.nil | refine Sub.cons rfl ?_) sub_st (by kernel_rfl)
    refine D_nodeR #[true, true, true, true, true, true, true, true, true, true, true, true, true, true, true, true, true, false, false, false, false, false, false, false] (fun _ : Unit => [(41, .agg (sdc (sideOf L2 p)).toArray), (35, .agg (sdc (sideOf L1 p)).toArray), (30, .agg #[.slice A1 L1.length c1']), (36, .agg #[.slice A2 L2.length c2']), (42, .agg #[.slice A3 L3.length c3']), (34, sv p), (40, sv p), (46, sv p), (4, .pointer (some ⟨b1, 0, none⟩)), (5, .pointer (some ⟨b2, 0, none⟩)), (6, .pointer (some ⟨b3, 0, none⟩)), (7, .pointer (some ⟨b4, 0, none⟩)), (8, .pointer (some ⟨b8, 0, none⟩)), (9, .pointer (some ⟨b9, 0, none⟩)), (10, .slice A6 l.length c6), (11, .int .i64 (j : Int))]) (fun _ : Unit => [row 70 2 A8 O.length c8 (cellsL rwc O), row 9 1 A6 l.length c6 (l.map sv), pt b9 24 [.slice A8 O.length c8], pt b8 24 [.slice none 0 0], pt b4 29 [.slice A4 C.length c4], pt b3 24 [.slice A3 L3.length c3'], pt b2 24 [.slice A2 L2.length c2'], pt b1 24 [.slice A1 L1.length c1']]) (fun x => ?_) (fun nd20 => ?_)
    · skip
      obtain ⟨⟩ := x
      try dsimp only
      refine D_four 17 18 19 20 rfl rfl rfl rfl (E_hv0 (f := 48) ⟨_, Try.func48, rfl, by kernel_rfl⟩ (fun w hS => rside_any w A3 L3.length c3' L3 p ((Srd.old h3 (fun k _ => noOwns k)).rd w hS) (by omega)) rfl rfl (fun _ => rfl)) (E_alloca rfl sd_zero) (E_alloca rfl sd_zero) (E_alloca rfl sd_zero) ?_ ?_ ?_ ?_ rfl rfl rfl rfl rfl rfl rfl rfl (by kernel_rfl)
      · rintro _ _ ⟨_, rfl, _, rfl⟩
        refine Nx_same sub_st ?_
        have h := nd12 ()
        try dsimp only at h
        exact D_at h (by repeat first | exact Sub.nil | refine Sub.cons rfl ?_) sub_st (by kernel_rfl)
      · rintro _ _ ⟨b12, rfl, rfl⟩
        refine Nx_same sub_st ?_
        have h := nd13 (b12)
        try dsimp only at h
        exact D_at h (by repeat first | exact Sub.nil | refine Sub.cons rfl ?_) sub_st (by kernel_rfl)
      · rintro _ _ ⟨b13, rfl, rfl⟩
        refine Nx_same sub_st ?_
        have h := nd14 (b13)
        try dsimp only at h
        exact D_at h (by repeat first | exact Sub.nil | refine Sub.cons rfl ?_) sub_st (by kernel_rfl)
      · rintro _ _ ⟨b14, rfl, rfl⟩
        refine Nx_same sub_st ?_
        have h := nd15 (b14)
        try dsimp only at h
        exact D_at h (by repeat first | exact Sub.nil | refine Sub.cons rfl ?_) sub_st (by kernel_rfl)
    refine D_nodeR #[true, true, true, true, true, true, true, true, true, true, true, false, true, true, true, true, true, false, true, false, false, false, false, false] (fun x : Nat => [(12, .pointer (some ⟨x, 0, none⟩)), (35, .agg (sdc (sideOf L1 p)).toArray), (30, .agg #[.slice A1 L1.length c1']), (36, .agg #[.slice A2 L2.length c2']), (42, .agg #[.slice A3 L3.length c3']), (34, sv p), (40, sv p), (46, sv p), (4, .pointer (some ⟨b1, 0, none⟩)), (5, .pointer (some ⟨b2, 0, none⟩)), (6, .pointer (some ⟨b3, 0, none⟩)), (7, .pointer (some ⟨b4, 0, none⟩)), (8, .pointer (some ⟨b8, 0, none⟩)), (9, .pointer (some ⟨b9, 0, none⟩)), (10, .slice A6 l.length c6), (11, .int .i64 (j : Int))]) (fun x : Nat => [pt x 50 (sdc default), row 70 2 A8 O.length c8 (cellsL rwc O), row 9 1 A6 l.length c6 (l.map sv), pt b9 24 [.slice A8 O.length c8], pt b8 24 [.slice none 0 0], pt b4 29 [.slice A4 C.length c4], pt b3 24 [.slice A3 L3.length c3'], pt b2 24 [.slice A2 L2.length c2'], pt b1 24 [.slice A1 L1.length c1']]) (fun x => ?_) (fun nd21 => ?_)
    · skip
      revert x; intro b12
      try dsimp only
      refine D_three 11 19 20 rfl rfl rfl (E_hv0 (f := 48) ⟨_, Try.func48, rfl, by kernel_rfl⟩ (fun w hS => rside_any w A2 L2.length c2' L2 p ((Srd.old h2 (fun k _ => noOwns k)).rd w hS) (by omega)) rfl rfl (fun _ => rfl)) (E_alloca rfl sd_zero) (E_alloca rfl sd_zero) ?_ ?_ ?_ rfl rfl rfl rfl rfl rfl (by kernel_rfl)
      · rintro _ _ ⟨_, rfl, _, rfl⟩
        refine Nx_same sub_st ?_
        have h := nd13 (b12)
        try dsimp only at h
        exact D_at h (by repeat first | exact Sub.nil | refine Sub.cons rfl ?_) sub_st (by kernel_rfl)
      · rintro _ _ ⟨b13, rfl, rfl⟩
        refine Nx_same sub_st ?_
        have h := nd16 (b12, b13)
        try dsimp only at h
        exact D_at h (by repeat first | exact Sub.nil | refine Sub.cons rfl ?_) sub_st (by kernel_rfl)
      · rintro _ _ ⟨b14, rfl, rfl⟩
        refine Nx_same sub_st ?_
        have h := nd17 (b12, b14)
        try dsimp only at h
        exact D_at h (by repeat first | exact Sub.nil | refine Sub.cons rfl ?_) sub_st (by kernel_rfl)
    refine D_nodeR #[true, true, true, true, true, true, true, true, true, true, true, false, true, true, true, true, true, false, false, true, false, false, false, false] (fun x : Nat => [(13, .pointer (some ⟨x, 0, none⟩)), (35, .agg (sdc (sideOf L1 p)).toArray), (30, .agg #[.slice A1 L1.length c1']), (36, .agg #[.slice A2 L2.length c2']), (42, .agg #[.slice A3 L3.length c3']), (34, sv p), (40, sv p), (46, sv p), (4, .pointer (some ⟨b1, 0, none⟩)), (5, .pointer (some ⟨b2, 0, none⟩)), (6, .pointer (some ⟨b3, 0, none⟩)), (7, .pointer (some ⟨b4, 0, none⟩)), (8, .pointer (some ⟨b8, 0, none⟩)), (9, .pointer (some ⟨b9, 0, none⟩)), (10, .slice A6 l.length c6), (11, .int .i64 (j : Int))]) (fun x : Nat => [pt x 50 (sdc default), row 70 2 A8 O.length c8 (cellsL rwc O), row 9 1 A6 l.length c6 (l.map sv), pt b9 24 [.slice A8 O.length c8], pt b8 24 [.slice none 0 0], pt b4 29 [.slice A4 C.length c4], pt b3 24 [.slice A3 L3.length c3'], pt b2 24 [.slice A2 L2.length c2'], pt b1 24 [.slice A1 L1.length c1']]) (fun x => ?_) (fun nd22 => ?_)
    · skip
      revert x; intro b13
      try dsimp only
      refine D_three 11 18 20 rfl rfl rfl (E_hv0 (f := 48) ⟨_, Try.func48, rfl, by kernel_rfl⟩ (fun w hS => rside_any w A2 L2.length c2' L2 p ((Srd.old h2 (fun k _ => noOwns k)).rd w hS) (by omega)) rfl rfl (fun _ => rfl)) (E_alloca rfl sd_zero) (E_alloca rfl sd_zero) ?_ ?_ ?_ rfl rfl rfl rfl rfl rfl (by kernel_rfl)
      · rintro _ _ ⟨_, rfl, _, rfl⟩
        refine Nx_same sub_st ?_
        have h := nd14 (b13)
        try dsimp only at h
        exact D_at h (by repeat first | exact Sub.nil | refine Sub.cons rfl ?_) sub_st (by kernel_rfl)
      · rintro _ _ ⟨b12, rfl, rfl⟩
        refine Nx_same sub_st ?_
        have h := nd16 (b12, b13)
        try dsimp only at h
        exact D_at h (by repeat first | exact Sub.nil | refine Sub.cons rfl ?_) sub_st (by kernel_rfl)
      · rintro _ _ ⟨b14, rfl, rfl⟩
        refine Nx_same sub_st ?_
        have h := nd18 (b13, b14)
        try dsimp only at h
        exact D_at h (by repeat first | exact Sub.nil | refine Sub.cons rfl ?_) sub_st (by kernel_rfl)
    refine D_nodeR #[true, true, true, true, true, true, true, true, true, true, true, false, true, true, true, true, true, false, false, false, true, false, false, false] (fun x : Nat => [(14, .pointer (some ⟨x, 0, none⟩)), (35, .agg (sdc (sideOf L1 p)).toArray), (30, .agg #[.slice A1 L1.length c1']), (36, .agg #[.slice A2 L2.length c2']), (42, .agg #[.slice A3 L3.length c3']), (34, sv p), (40, sv p), (46, sv p), (4, .pointer (some ⟨b1, 0, none⟩)), (5, .pointer (some ⟨b2, 0, none⟩)), (6, .pointer (some ⟨b3, 0, none⟩)), (7, .pointer (some ⟨b4, 0, none⟩)), (8, .pointer (some ⟨b8, 0, none⟩)), (9, .pointer (some ⟨b9, 0, none⟩)), (10, .slice A6 l.length c6), (11, .int .i64 (j : Int))]) (fun x : Nat => [pt x 50 (sdc default), row 70 2 A8 O.length c8 (cellsL rwc O), row 9 1 A6 l.length c6 (l.map sv), pt b9 24 [.slice A8 O.length c8], pt b8 24 [.slice none 0 0], pt b4 29 [.slice A4 C.length c4], pt b3 24 [.slice A3 L3.length c3'], pt b2 24 [.slice A2 L2.length c2'], pt b1 24 [.slice A1 L1.length c1']]) (fun x => ?_) (fun nd23 => ?_)
    · skip
      revert x; intro b14
      try dsimp only
      refine D_three 11 18 19 rfl rfl rfl (E_hv0 (f := 48) ⟨_, Try.func48, rfl, by kernel_rfl⟩ (fun w hS => rside_any w A2 L2.length c2' L2 p ((Srd.old h2 (fun k _ => noOwns k)).rd w hS) (by omega)) rfl rfl (fun _ => rfl)) (E_alloca rfl sd_zero) (E_alloca rfl sd_zero) ?_ ?_ ?_ rfl rfl rfl rfl rfl rfl (by kernel_rfl)
      · rintro _ _ ⟨_, rfl, _, rfl⟩
        refine Nx_same sub_st ?_
        have h := nd15 (b14)
        try dsimp only at h
        exact D_at h (by repeat first | exact Sub.nil | refine Sub.cons rfl ?_) sub_st (by kernel_rfl)
      · rintro _ _ ⟨b12, rfl, rfl⟩
        refine Nx_same sub_st ?_
        have h := nd17 (b12, b14)
        try dsimp only at h
        exact D_at h (by repeat first | exact Sub.nil | refine Sub.cons rfl ?_) sub_st (by kernel_rfl)
      · rintro _ _ ⟨b13, rfl, rfl⟩
        refine Nx_same sub_st ?_
        have h := nd18 (b13, b14)
        try dsimp only at h
        exact D_at h (by repeat first | exact Sub.nil | refine Sub.cons rfl ?_) sub_st (by kernel_rfl)
    refine D_nodeR #[true, true, true, true, true, false, true, true, true, true, true, false, true, true, true, true, true, false, true, true, false, false, false, false] (fun x : Nat × Nat => [(13, .pointer (some ⟨x.2, 0, none⟩)), (12, .pointer (some ⟨x.1, 0, none⟩)), (30, .agg #[.slice A1 L1.length c1']), (36, .agg #[.slice A2 L2.length c2']), (42, .agg #[.slice A3 L3.length c3']), (34, sv p), (40, sv p), (46, sv p), (4, .pointer (some ⟨b1, 0, none⟩)), (5, .pointer (some ⟨b2, 0, none⟩)), (6, .pointer (some ⟨b3, 0, none⟩)), (7, .pointer (some ⟨b4, 0, none⟩)), (8, .pointer (some ⟨b8, 0, none⟩)), (9, .pointer (some ⟨b9, 0, none⟩)), (10, .slice A6 l.length c6), (11, .int .i64 (j : Int))]) (fun x : Nat × Nat => [pt x.2 50 (sdc default), pt x.1 50 (sdc default), row 70 2 A8 O.length c8 (cellsL rwc O), row 9 1 A6 l.length c6 (l.map sv), pt b9 24 [.slice A8 O.length c8], pt b8 24 [.slice none 0 0], pt b4 29 [.slice A4 C.length c4], pt b3 24 [.slice A3 L3.length c3'], pt b2 24 [.slice A2 L2.length c2'], pt b1 24 [.slice A1 L1.length c1']]) (fun x => ?_) (fun nd24 => ?_)
    · skip
      obtain ⟨b12, b13⟩ := x
      try dsimp only
      refine D_two 5 20 (by decide) rfl rfl (E_hv0 (f := 48) ⟨_, Try.func48, rfl, by kernel_rfl⟩ (fun w hS => rside_any w A1 L1.length c1' L1 p ((Srd.old h1 (fun k _ => noOwns k)).rd w hS) (by omega)) rfl rfl (fun _ => rfl)) (E_alloca rfl sd_zero) ?_ ?_ rfl rfl rfl rfl (by kernel_rfl)
      · rintro _ _ ⟨_, rfl, _, rfl⟩
        refine Nx_same sub_st ?_
        have h := nd16 (b12, b13)
        try dsimp only at h
        exact D_at h (by repeat first | exact Sub.nil | refine Sub.cons rfl ?_) sub_st (by kernel_rfl)
      · rintro _ _ ⟨b14, rfl, rfl⟩
        refine Nx_same sub_st ?_
        have h := nd19 (b12, b13, b14)
        try dsimp only at h
        exact D_at h (by repeat first | exact Sub.nil | refine Sub.cons rfl ?_) sub_st (by kernel_rfl)
    refine D_nodeR #[true, true, true, true, true, false, true, true, true, true, true, false, true, true, true, true, true, false, true, false, true, false, false, false] (fun x : Nat × Nat => [(14, .pointer (some ⟨x.2, 0, none⟩)), (12, .pointer (some ⟨x.1, 0, none⟩)), (30, .agg #[.slice A1 L1.length c1']), (36, .agg #[.slice A2 L2.length c2']), (42, .agg #[.slice A3 L3.length c3']), (34, sv p), (40, sv p), (46, sv p), (4, .pointer (some ⟨b1, 0, none⟩)), (5, .pointer (some ⟨b2, 0, none⟩)), (6, .pointer (some ⟨b3, 0, none⟩)), (7, .pointer (some ⟨b4, 0, none⟩)), (8, .pointer (some ⟨b8, 0, none⟩)), (9, .pointer (some ⟨b9, 0, none⟩)), (10, .slice A6 l.length c6), (11, .int .i64 (j : Int))]) (fun x : Nat × Nat => [pt x.2 50 (sdc default), pt x.1 50 (sdc default), row 70 2 A8 O.length c8 (cellsL rwc O), row 9 1 A6 l.length c6 (l.map sv), pt b9 24 [.slice A8 O.length c8], pt b8 24 [.slice none 0 0], pt b4 29 [.slice A4 C.length c4], pt b3 24 [.slice A3 L3.length c3'], pt b2 24 [.slice A2 L2.length c2'], pt b1 24 [.slice A1 L1.length c1']]) (fun x => ?_) (fun nd25 => ?_)
    · skip
      obtain ⟨b12, b14⟩ := x
      try dsimp only
      refine D_two 5 19 (by decide) rfl rfl (E_hv0 (f := 48) ⟨_, Try.func48, rfl, by kernel_rfl⟩ (fun w hS => rside_any w A1 L1.length c1' L1 p ((Srd.old h1 (fun k _ => noOwns k)).rd w hS) (by omega)) rfl rfl (fun _ => rfl)) (E_alloca rfl sd_zero) ?_ ?_ rfl rfl rfl rfl (by kernel_rfl)
      · rintro _ _ ⟨_, rfl, _, rfl⟩
        refine Nx_same sub_st ?_
        have h := nd17 (b12, b14)
        try dsimp only at h
        exact D_at h (by repeat first | exact Sub.nil | refine Sub.cons rfl ?_) sub_st (by kernel_rfl)
      · rintro _ _ ⟨b13, rfl, rfl⟩
        refine Nx_same sub_st ?_
        have h := nd19 (b12, b13, b14)
        try dsimp only at h
        exact D_at h (by repeat first | exact Sub.nil | refine Sub.cons rfl ?_) sub_st (by kernel_rfl)
    refine D_nodeR #[true, true, true, true, true, false, true, true, true, true, true, false, true, true, true, true, true, false, false, true, true, false, false, false] (fun x : Nat × Nat => [(14, .pointer (some ⟨x.2, 0, none⟩)), (13, .pointer (some ⟨x.1, 0, none⟩)), (30, .agg #[.slice A1 L1.length c1']), (36, .agg #[.slice A2 L2.length c2']), (42, .agg #[.slice A3 L3.length c3']), (34, sv p), (40, sv p), (46, sv p), (4, .pointer (some ⟨b1, 0, none⟩)), (5, .pointer (some ⟨b2, 0, none⟩)), (6, .pointer (some ⟨b3, 0, none⟩)), (7, .pointer (some ⟨b4, 0, none⟩)), (8, .pointer (some ⟨b8, 0, none⟩)), (9, .pointer (some ⟨b9, 0, none⟩)), (10, .slice A6 l.length c6), (11, .int .i64 (j : Int))]) (fun x : Nat × Nat => [pt x.2 50 (sdc default), pt x.1 50 (sdc default), row 70 2 A8 O.length c8 (cellsL rwc O), row 9 1 A6 l.length c6 (l.map sv), pt b9 24 [.slice A8 O.length c8], pt b8 24 [.slice none 0 0], pt b4 29 [.slice A4 C.length c4], pt b3 24 [.slice A3 L3.length c3'], pt b2 24 [.slice A2 L2.length c2'], pt b1 24 [.slice A1 L1.length c1']]) (fun x => ?_) (fun nd26 => ?_)
    · skip
      obtain ⟨b13, b14⟩ := x
      try dsimp only
      refine D_two 5 18 (by decide) rfl rfl (E_hv0 (f := 48) ⟨_, Try.func48, rfl, by kernel_rfl⟩ (fun w hS => rside_any w A1 L1.length c1' L1 p ((Srd.old h1 (fun k _ => noOwns k)).rd w hS) (by omega)) rfl rfl (fun _ => rfl)) (E_alloca rfl sd_zero) ?_ ?_ rfl rfl rfl rfl (by kernel_rfl)
      · rintro _ _ ⟨_, rfl, _, rfl⟩
        refine Nx_same sub_st ?_
        have h := nd18 (b13, b14)
        try dsimp only at h
        exact D_at h (by repeat first | exact Sub.nil | refine Sub.cons rfl ?_) sub_st (by kernel_rfl)
      · rintro _ _ ⟨b12, rfl, rfl⟩
        refine Nx_same sub_st ?_
        have h := nd19 (b12, b13, b14)
        try dsimp only at h
        exact D_at h (by repeat first | exact Sub.nil | refine Sub.cons rfl ?_) sub_st (by kernel_rfl)
    refine D_nodeR #[true, true, true, true, true, true, true, true, true, true, true, false, true, true, true, true, true, false, false, false, false, false, false, false] (fun _ : Unit => [(35, .agg (sdc (sideOf L1 p)).toArray), (30, .agg #[.slice A1 L1.length c1']), (36, .agg #[.slice A2 L2.length c2']), (42, .agg #[.slice A3 L3.length c3']), (34, sv p), (40, sv p), (46, sv p), (4, .pointer (some ⟨b1, 0, none⟩)), (5, .pointer (some ⟨b2, 0, none⟩)), (6, .pointer (some ⟨b3, 0, none⟩)), (7, .pointer (some ⟨b4, 0, none⟩)), (8, .pointer (some ⟨b8, 0, none⟩)), (9, .pointer (some ⟨b9, 0, none⟩)), (10, .slice A6 l.length c6), (11, .int .i64 (j : Int))]) (fun _ : Unit => [row 70 2 A8 O.length c8 (cellsL rwc O), row 9 1 A6 l.length c6 (l.map sv), pt b9 24 [.slice A8 O.length c8], pt b8 24 [.slice none 0 0], pt b4 29 [.slice A4 C.length c4], pt b3 24 [.slice A3 L3.length c3'], pt b2 24 [.slice A2 L2.length c2'], pt b1 24 [.slice A1 L1.length c1']]) (fun x => ?_) (fun nd27 => ?_)
    · skip
      obtain ⟨⟩ := x
      try dsimp only
      refine D_four 11 18 19 20 rfl rfl rfl rfl (E_hv0 (f := 48) ⟨_, Try.func48, rfl, by kernel_rfl⟩ (fun w hS => rside_any w A2 L2.length c2' L2 p ((Srd.old h2 (fun k _ => noOwns k)).rd w hS) (by omega)) rfl rfl (fun _ => rfl)) (E_alloca rfl sd_zero) (E_alloca rfl sd_zero) (E_alloca rfl sd_zero) ?_ ?_ ?_ ?_ rfl rfl rfl rfl rfl rfl rfl rfl (by kernel_rfl)
      · rintro _ _ ⟨_, rfl, _, rfl⟩
        refine Nx_same sub_st ?_
        have h := nd20 ()
        try dsimp only at h
        exact D_at h (by repeat first | exact Sub.nil | refine Sub.cons rfl ?_) sub_st (by kernel_rfl)
      · rintro _ _ ⟨b12, rfl, rfl⟩
        refine Nx_same sub_st ?_
        have h := nd21 (b12)
        try dsimp only at h
        exact D_at h (by repeat first | exact Sub.nil | refine Sub.cons rfl ?_) sub_st (by kernel_rfl)
      · rintro _ _ ⟨b13, rfl, rfl⟩
        refine Nx_same sub_st ?_
        have h := nd22 (b13)
        try dsimp only at h
        exact D_at h (by repeat first | exact Sub.nil | refine Sub.cons rfl ?_) sub_st (by kernel_rfl)
      · rintro _ _ ⟨b14, rfl, rfl⟩
        refine Nx_same sub_st ?_
        have h := nd23 (b14)
        try dsimp only at h
        exact D_at h (by repeat first | exact Sub.nil | refine Sub.cons rfl ?_) sub_st (by kernel_rfl)
    refine D_nodeR #[true, true, true, true, true, false, true, true, true, true, true, false, true, true, true, true, true, false, true, false, false, false, false, false] (fun x : Nat => [(12, .pointer (some ⟨x, 0, none⟩)), (30, .agg #[.slice A1 L1.length c1']), (36, .agg #[.slice A2 L2.length c2']), (42, .agg #[.slice A3 L3.length c3']), (34, sv p), (40, sv p), (46, sv p), (4, .pointer (some ⟨b1, 0, none⟩)), (5, .pointer (some ⟨b2, 0, none⟩)), (6, .pointer (some ⟨b3, 0, none⟩)), (7, .pointer (some ⟨b4, 0, none⟩)), (8, .pointer (some ⟨b8, 0, none⟩)), (9, .pointer (some ⟨b9, 0, none⟩)), (10, .slice A6 l.length c6), (11, .int .i64 (j : Int))]) (fun x : Nat => [pt x 50 (sdc default), row 70 2 A8 O.length c8 (cellsL rwc O), row 9 1 A6 l.length c6 (l.map sv), pt b9 24 [.slice A8 O.length c8], pt b8 24 [.slice none 0 0], pt b4 29 [.slice A4 C.length c4], pt b3 24 [.slice A3 L3.length c3'], pt b2 24 [.slice A2 L2.length c2'], pt b1 24 [.slice A1 L1.length c1']]) (fun x => ?_) (fun nd28 => ?_)
    · skip
      revert x; intro b12
      try dsimp only
      refine D_three 5 19 20 rfl rfl rfl (E_hv0 (f := 48) ⟨_, Try.func48, rfl, by kernel_rfl⟩ (fun w hS => rside_any w A1 L1.length c1' L1 p ((Srd.old h1 (fun k _ => noOwns k)).rd w hS) (by omega)) rfl rfl (fun _ => rfl)) (E_alloca rfl sd_zero) (E_alloca rfl sd_zero) ?_ ?_ ?_ rfl rfl rfl rfl rfl rfl (by kernel_rfl)
      · rintro _ _ ⟨_, rfl, _, rfl⟩
        refine Nx_same sub_st ?_
        have h := nd21 (b12)
        try dsimp only at h
        exact D_at h (by repeat first | exact Sub.nil | refine Sub.cons rfl ?_) sub_st (by kernel_rfl)
      · rintro _ _ ⟨b13, rfl, rfl⟩
        refine Nx_same sub_st ?_
        have h := nd24 (b12, b13)
        try dsimp only at h
        exact D_at h (by repeat first | exact Sub.nil | refine Sub.cons rfl ?_) sub_st (by kernel_rfl)
      · rintro _ _ ⟨b14, rfl, rfl⟩
        refine Nx_same sub_st ?_
        have h := nd25 (b12, b14)
        try dsimp only at h
        exact D_at h (by repeat first | exact Sub.nil | refine Sub.cons rfl ?_) sub_st (by kernel_rfl)
    refine D_nodeR #[true, true, true, true, true, false, true, true, true, true, true, false, true, true, true, true, true, false, false, true, false, false, false, false] (fun x : Nat => [(13, .pointer (some ⟨x, 0, none⟩)), (30, .agg #[.slice A1 L1.length c1']), (36, .agg #[.slice A2 L2.length c2']), (42, .agg #[.slice A3 L3.length c3']), (34, sv p), (40, sv p), (46, sv p), (4, .pointer (some ⟨b1, 0, none⟩)), (5, .pointer (some ⟨b2, 0, none⟩)), (6, .pointer (some ⟨b3, 0, none⟩)), (7, .pointer (some ⟨b4, 0, none⟩)), (8, .pointer (some ⟨b8, 0, none⟩)), (9, .pointer (some ⟨b9, 0, none⟩)), (10, .slice A6 l.length c6), (11, .int .i64 (j : Int))]) (fun x : Nat => [pt x 50 (sdc default), row 70 2 A8 O.length c8 (cellsL rwc O), row 9 1 A6 l.length c6 (l.map sv), pt b9 24 [.slice A8 O.length c8], pt b8 24 [.slice none 0 0], pt b4 29 [.slice A4 C.length c4], pt b3 24 [.slice A3 L3.length c3'], pt b2 24 [.slice A2 L2.length c2'], pt b1 24 [.slice A1 L1.length c1']]) (fun x => ?_) (fun nd29 => ?_)
    · skip
      revert x; intro b13
      try dsimp only
      refine D_three 5 18 20 rfl rfl rfl (E_hv0 (f := 48) ⟨_, Try.func48, rfl, by kernel_rfl⟩ (fun w hS => rside_any w A1 L1.length c1' L1 p ((Srd.old h1 (fun k _ => noOwns k)).rd w hS) (by omega)) rfl rfl (fun _ => rfl)) (E_alloca rfl sd_zero) (E_alloca rfl sd_zero) ?_ ?_ ?_ rfl rfl rfl rfl rfl rfl (by kernel_rfl)
      · rintro _ _ ⟨_, rfl, _, rfl⟩
        refine Nx_same sub_st ?_
        have h := nd22 (b13)
        try dsimp only at h
        exact D_at h (by repeat first | exact Sub.nil | refine Sub.cons rfl ?_) sub_st (by kernel_rfl)
      · rintro _ _ ⟨b12, rfl, rfl⟩
        refine Nx_same sub_st ?_
        have h := nd24 (b12, b13)
        try dsimp only at h
        exact D_at h (by repeat first | exact Sub.nil | refine Sub.cons rfl ?_) sub_st (by kernel_rfl)
      · rintro _ _ ⟨b14, rfl, rfl⟩
        refine Nx_same sub_st ?_
        have h := nd26 (b13, b14)
        try dsimp only at h
        exact D_at h (by repeat first | exact Sub.nil | refine Sub.cons rfl ?_) sub_st (by kernel_rfl)
    refine D_nodeR #[true, true, true, true, true, false, true, true, true, true, true, false, true, true, true, true, true, false, false, false, true, false, false, false] (fun x : Nat => [(14, .pointer (some ⟨x, 0, none⟩)), (30, .agg #[.slice A1 L1.length c1']), (36, .agg #[.slice A2 L2.length c2']), (42, .agg #[.slice A3 L3.length c3']), (34, sv p), (40, sv p), (46, sv p), (4, .pointer (some ⟨b1, 0, none⟩)), (5, .pointer (some ⟨b2, 0, none⟩)), (6, .pointer (some ⟨b3, 0, none⟩)), (7, .pointer (some ⟨b4, 0, none⟩)), (8, .pointer (some ⟨b8, 0, none⟩)), (9, .pointer (some ⟨b9, 0, none⟩)), (10, .slice A6 l.length c6), (11, .int .i64 (j : Int))]) (fun x : Nat => [pt x 50 (sdc default), row 70 2 A8 O.length c8 (cellsL rwc O), row 9 1 A6 l.length c6 (l.map sv), pt b9 24 [.slice A8 O.length c8], pt b8 24 [.slice none 0 0], pt b4 29 [.slice A4 C.length c4], pt b3 24 [.slice A3 L3.length c3'], pt b2 24 [.slice A2 L2.length c2'], pt b1 24 [.slice A1 L1.length c1']]) (fun x => ?_) (fun nd30 => ?_)
    · skip
      revert x; intro b14
      try dsimp only
      refine D_three 5 18 19 rfl rfl rfl (E_hv0 (f := 48) ⟨_, Try.func48, rfl, by kernel_rfl⟩ (fun w hS => rside_any w A1 L1.length c1' L1 p ((Srd.old h1 (fun k _ => noOwns k)).rd w hS) (by omega)) rfl rfl (fun _ => rfl)) (E_alloca rfl sd_zero) (E_alloca rfl sd_zero) ?_ ?_ ?_ rfl rfl rfl rfl rfl rfl (by kernel_rfl)
      · rintro _ _ ⟨_, rfl, _, rfl⟩
        refine Nx_same sub_st ?_
        have h := nd23 (b14)
        try dsimp only at h
        exact D_at h (by repeat first | exact Sub.nil | refine Sub.cons rfl ?_) sub_st (by kernel_rfl)
      · rintro _ _ ⟨b12, rfl, rfl⟩
        refine Nx_same sub_st ?_
        have h := nd25 (b12, b14)
        try dsimp only at h
        exact D_at h (by repeat first | exact Sub.nil | refine Sub.cons rfl ?_) sub_st (by kernel_rfl)
      · rintro _ _ ⟨b13, rfl, rfl⟩
        refine Nx_same sub_st ?_
        have h := nd26 (b13, b14)
        try dsimp only at h
        exact D_at h (by repeat first | exact Sub.nil | refine Sub.cons rfl ?_) sub_st (by kernel_rfl)
    refine D_nodeR #[true, true, true, true, true, false, true, true, true, true, true, false, true, true, true, true, true, false, false, false, false, false, false, false] (fun _ : Unit => [(30, .agg #[.slice A1 L1.length c1']), (36, .agg #[.slice A2 L2.length c2']), (42, .agg #[.slice A3 L3.length c3']), (34, sv p), (40, sv p), (46, sv p), (4, .pointer (some ⟨b1, 0, none⟩)), (5, .pointer (some ⟨b2, 0, none⟩)), (6, .pointer (some ⟨b3, 0, none⟩)), (7, .pointer (some ⟨b4, 0, none⟩)), (8, .pointer (some ⟨b8, 0, none⟩)), (9, .pointer (some ⟨b9, 0, none⟩)), (10, .slice A6 l.length c6), (11, .int .i64 (j : Int))]) (fun _ : Unit => [row 70 2 A8 O.length c8 (cellsL rwc O), row 9 1 A6 l.length c6 (l.map sv), pt b9 24 [.slice A8 O.length c8], pt b8 24 [.slice none 0 0], pt b4 29 [.slice A4 C.length c4], pt b3 24 [.slice A3 L3.length c3'], pt b2 24 [.slice A2 L2.length c2'], pt b1 24 [.slice A1 L1.length c1']]) (fun x => ?_) (fun nd31 => ?_)
    · skip
      obtain ⟨⟩ := x
      try dsimp only
      refine D_four 5 18 19 20 rfl rfl rfl rfl (E_hv0 (f := 48) ⟨_, Try.func48, rfl, by kernel_rfl⟩ (fun w hS => rside_any w A1 L1.length c1' L1 p ((Srd.old h1 (fun k _ => noOwns k)).rd w hS) (by omega)) rfl rfl (fun _ => rfl)) (E_alloca rfl sd_zero) (E_alloca rfl sd_zero) (E_alloca rfl sd_zero) ?_ ?_ ?_ ?_ rfl rfl rfl rfl rfl rfl rfl rfl (by kernel_rfl)
      · rintro _ _ ⟨_, rfl, _, rfl⟩
        refine Nx_same sub_st ?_
        have h := nd27 ()
        try dsimp only at h
        exact D_at h (by repeat first | exact Sub.nil | refine Sub.cons rfl ?_) sub_st (by kernel_rfl)
      · rintro _ _ ⟨b12, rfl, rfl⟩
        refine Nx_same sub_st ?_
        have h := nd28 (b12)
        try dsimp only at h
        exact D_at h (by repeat first | exact Sub.nil | refine Sub.cons rfl ?_) sub_st (by kernel_rfl)
      · rintro _ _ ⟨b13, rfl, rfl⟩
        refine Nx_same sub_st ?_
        have h := nd29 (b13)
        try dsimp only at h
        exact D_at h (by repeat first | exact Sub.nil | refine Sub.cons rfl ?_) sub_st (by kernel_rfl)
      · rintro _ _ ⟨b14, rfl, rfl⟩
        refine Nx_same sub_st ?_
        have h := nd30 (b14)
        try dsimp only at h
        exact D_at h (by repeat first | exact Sub.nil | refine Sub.cons rfl ?_) sub_st (by kernel_rfl)
    have h := nd31 ()
    try dsimp only at h
    exact D_at h (by repeat first | exact Sub.nil | refine Sub.cons rfl ?_) sub_st (by kernel_rfl)
    obtain ⟨b12, b13, b14⟩ := x
    try dsimp only
    refine D_one 21 rfl (E_storew (cs := sdc default) (ds := sdc (sideOf L1 p)) rfl rfl rfl rfl (sdc_one _) rfl) ?_ rfl rfl (by kernel_rfl)
    rintro _ _ rfl
    refine Nx_pivot (by kernel_rfl) ?_
    refine D_one 22 rfl (E_storew (cs := sdc default) (ds := sdc (sideOf L2 p)) rfl rfl rfl rfl (sdc_one _) rfl) ?_ rfl rfl (by kernel_rfl)
    rintro _ _ rfl
    refine Nx_pivot (by kernel_rfl) ?_
    refine D_one 23 rfl (E_storew (cs := sdc default) (ds := sdc (sideOf L3 p)) rfl rfl rfl rfl (sdc_one _) rfl) ?_ rfl rfl (by kernel_rfl)
    rintro _ _ rfl
    refine Nx_pivot (by kernel_rfl) ?_
    refine D_done ?_ (by kernel_rfl)
    skip
    obtain ⟨x1, hx1⟩ : ∃ x, sideOf L1 p = x := ⟨_, rfl⟩
    obtain ⟨x2, hx2⟩ : ∃ x, sideOf L2 p = x := ⟨_, rfl⟩
    obtain ⟨x3, hx3⟩ : ∃ x, sideOf L3 p = x := ⟨_, rfl⟩
    rw [hx1, hx2, hx3]
    obtain ⟨q, hq⟩ : ∃ q, fstK (·.1) C p = q := ⟨_, rfl⟩
    have hrc : rres1 L1 L2 L3 C p = if (rres0 x1 x2 x3 q).1 then some (p, (rres0 x1 x2 x3 q).2) else none := by rw [rres1, hx1, hx2, hx3, hq]
    have hnx := hnx _ hrc
    refine S_seq rfl ?_
    refine S_cut (X := Nat) (fun b15 => [(4, .pointer (some ⟨b1, 0, none⟩)), (5, .pointer (some ⟨b2, 0, none⟩)), (6, .pointer (some ⟨b3, 0, none⟩)), (7, .pointer (some ⟨b4, 0, none⟩)), (8, .pointer (some ⟨b8, 0, none⟩)), (9, .pointer (some ⟨b9, 0, none⟩)), (10, .slice A6 l.length c6), (11, .int .i64 (j : Int)), (12, .pointer (some ⟨b12, 0, none⟩)), (13, .pointer (some ⟨b13, 0, none⟩)), (14, .pointer (some ⟨b14, 0, none⟩)), (15, .pointer (some ⟨b15, 0, none⟩))]) (fun b15 => [pt b15 50 (sdc x2), pt b14 50 (sdc x3), pt b13 50 (sdc x2), pt b12 50 (sdc x1), row 70 2 A8 O.length c8 (cellsL rwc O), row 9 1 A6 l.length c6 (l.map sv), pt b9 24 [.slice A8 O.length c8], pt b8 24 [.slice none 0 0], pt b4 29 [.slice A4 C.length c4], pt b3 24 [.slice A3 L3.length c3'], pt b2 24 [.slice A2 L2.length c2'], pt b1 24 [.slice A1 L1.length c1']]) (fun _ => True) (fun J2 hJ2 => ?_) (fun b15 _ => ?_)
    · focus (refine S_region rfl rfl ?_; refine R_take (T_loads (ds := sdc x2) rfl rfl rfl rfl rfl) ?_ rfl rfl; (refine R_eff (E_alloca rfl sd_zero) ?_ rfl rfl; rintro _ _ ⟨b15, rfl, rfl⟩); (refine R_eff0 (E_storew (cs := sdc default) (ds := sdc x2) rfl rfl rfl rfl (sdc_one _) rfl) ?_ rfl; rintro _ _ rfl); refine R_nil ?_)
      exact hJ2 b15 _ _ trivial (Sub.cons rfl (Sub.cons rfl (Sub.cons rfl (Sub.cons rfl (Sub.cons rfl (Sub.cons rfl (Sub.cons rfl (Sub.cons rfl (Sub.cons rfl (Sub.cons rfl (Sub.cons rfl (Sub.cons rfl Sub.nil)))))))))))) sub_st
    refine S_seq rfl ?_
    obtain ⟨x0, hx0⟩ : ∃ x0, (if x2 ≠ x3 ∧ x1 = x2 then x3 else x2) = x0 := ⟨_, rfl⟩
    obtain ⟨r1, hr1⟩ : ∃ r, decide (x2 = x3) = r := ⟨_, rfl⟩
    obtain ⟨r2, hr2⟩ : ∃ r, decide (x1 = x2) = r := ⟨_, rfl⟩
    refine S_cut (X := Unit) (fun _ => [(4, .pointer (some ⟨b1, 0, none⟩)), (5, .pointer (some ⟨b2, 0, none⟩)), (6, .pointer (some ⟨b3, 0, none⟩)), (7, .pointer (some ⟨b4, 0, none⟩)), (8, .pointer (some ⟨b8, 0, none⟩)), (9, .pointer (some ⟨b9, 0, none⟩)), (10, .slice A6 l.length c6), (11, .int .i64 (j : Int)), (12, .pointer (some ⟨b12, 0, none⟩)), (13, .pointer (some ⟨b13, 0, none⟩)), (14, .pointer (some ⟨b14, 0, none⟩)), (15, .pointer (some ⟨b15, 0, none⟩))]) (fun _ => [pt b15 50 (sdc x0), pt b14 50 (sdc x3), pt b13 50 (sdc x2), pt b12 50 (sdc x1), row 70 2 A8 O.length c8 (cellsL rwc O), row 9 1 A6 l.length c6 (l.map sv), pt b9 24 [.slice A8 O.length c8], pt b8 24 [.slice none 0 0], pt b4 29 [.slice A4 C.length c4], pt b3 24 [.slice A3 L3.length c3'], pt b2 24 [.slice A2 L2.length c2'], pt b1 24 [.slice A1 L1.length c1']]) (fun _ => True) (fun J2 hJ2 => ?_) (fun _ _ => ?_)
    · cases r1 <;> cases r2
      · have e : x0 = x2 := by rw [← hx0]; simp [of_decide_eq_false hr1, of_decide_eq_false hr2]
        rw [e] at hJ2
        focus (refine S_seq rfl ?_; refine S_region rfl rfl ?_; refine R_take (T_loads (ds := sdc x2) rfl rfl rfl rfl rfl) ?_ rfl rfl; refine R_take (T_loads (ds := sdc x3) rfl rfl rfl rfl rfl) ?_ rfl rfl; refine R_take (T_neSd (a := x2) (b := x3) rfl rfl hr1) ?_ rfl rfl; refine R_p rfl ?_ rfl rfl; refine R_take (T_loads (ds := sdc x1) rfl rfl rfl rfl rfl) ?_ rfl rfl; refine R_take (T_loads (ds := sdc x2) rfl rfl rfl rfl rfl) ?_ rfl rfl; refine R_take (T_eqSd (a := x1) (b := x2) rfl rfl hr2) ?_ rfl rfl; refine R_p rfl ?_ rfl rfl; refine R_nil ?_; refine S_false rfl rfl ?_; refine S_skip rfl ?_)
        exact hJ2 () _ _ trivial (Sub.cons rfl (Sub.cons rfl (Sub.cons rfl (Sub.cons rfl (Sub.cons rfl (Sub.cons rfl (Sub.cons rfl (Sub.cons rfl (Sub.cons rfl (Sub.cons rfl (Sub.cons rfl (Sub.cons rfl Sub.nil)))))))))))) sub_st
      · have e : x0 = x3 := by rw [← hx0]; simp [of_decide_eq_false hr1, of_decide_eq_true hr2]
        rw [e] at hJ2
        focus (refine S_seq rfl ?_; refine S_region rfl rfl ?_; refine R_take (T_loads (ds := sdc x2) rfl rfl rfl rfl rfl) ?_ rfl rfl; refine R_take (T_loads (ds := sdc x3) rfl rfl rfl rfl rfl) ?_ rfl rfl; refine R_take (T_neSd (a := x2) (b := x3) rfl rfl hr1) ?_ rfl rfl; refine R_p rfl ?_ rfl rfl; refine R_take (T_loads (ds := sdc x1) rfl rfl rfl rfl rfl) ?_ rfl rfl; refine R_take (T_loads (ds := sdc x2) rfl rfl rfl rfl rfl) ?_ rfl rfl; refine R_take (T_eqSd (a := x1) (b := x2) rfl rfl hr2) ?_ rfl rfl; refine R_p rfl ?_ rfl rfl; refine R_nil ?_; refine S_true rfl rfl ?_; refine S_region rfl rfl ?_; refine R_take (T_loads (ds := sdc x3) rfl rfl rfl rfl rfl) ?_ rfl rfl; (refine R_eff0 (E_storew (cs := sdc x2) (ds := sdc x3) rfl rfl rfl rfl (sdc_one _) rfl) ?_ rfl; rintro _ _ rfl); refine R_nil ?_)
        exact hJ2 () _ _ trivial (Sub.cons rfl (Sub.cons rfl (Sub.cons rfl (Sub.cons rfl (Sub.cons rfl (Sub.cons rfl (Sub.cons rfl (Sub.cons rfl (Sub.cons rfl (Sub.cons rfl (Sub.cons rfl (Sub.cons rfl Sub.nil)))))))))))) sub_st
      · have e : x0 = x2 := by rw [← hx0]; simp [of_decide_eq_true hr1, of_decide_eq_false hr2]
        rw [e] at hJ2
        focus (refine S_seq rfl ?_; refine S_region rfl rfl ?_; refine R_take (T_loads (ds := sdc x2) rfl rfl rfl rfl rfl) ?_ rfl rfl; refine R_take (T_loads (ds := sdc x3) rfl rfl rfl rfl rfl) ?_ rfl rfl; refine R_take (T_neSd (a := x2) (b := x3) rfl rfl hr1) ?_ rfl rfl; refine R_p rfl ?_ rfl rfl; refine R_skip ?_ rfl rfl; refine R_skip ?_ rfl rfl; refine R_skip ?_ rfl rfl; refine R_p rfl ?_ rfl rfl; refine R_nil ?_; refine S_false rfl rfl ?_; refine S_skip rfl ?_)
        exact hJ2 () _ _ trivial (Sub.cons rfl (Sub.cons rfl (Sub.cons rfl (Sub.cons rfl (Sub.cons rfl (Sub.cons rfl (Sub.cons rfl (Sub.cons rfl (Sub.cons rfl (Sub.cons rfl (Sub.cons rfl (Sub.cons rfl Sub.nil)))))))))))) sub_st
      · have e : x0 = x2 := by rw [← hx0]; simp [of_decide_eq_true hr1, of_decide_eq_true hr2]
        rw [e] at hJ2
        focus (refine S_seq rfl ?_; refine S_region rfl rfl ?_; refine R_take (T_loads (ds := sdc x2) rfl rfl rfl rfl rfl) ?_ rfl rfl; refine R_take (T_loads (ds := sdc x3) rfl rfl rfl rfl rfl) ?_ rfl rfl; refine R_take (T_neSd (a := x2) (b := x3) rfl rfl hr1) ?_ rfl rfl; refine R_p rfl ?_ rfl rfl; refine R_skip ?_ rfl rfl; refine R_skip ?_ rfl rfl; refine R_skip ?_ rfl rfl; refine R_p rfl ?_ rfl rfl; refine R_nil ?_; refine S_false rfl rfl ?_; refine S_skip rfl ?_)
        exact hJ2 () _ _ trivial (Sub.cons rfl (Sub.cons rfl (Sub.cons rfl (Sub.cons rfl (Sub.cons rfl (Sub.cons rfl (Sub.cons rfl (Sub.cons rfl (Sub.cons rfl (Sub.cons rfl (Sub.cons rfl (Sub.cons rfl Sub.nil)))))))))))) sub_st
    refine S_seq rfl ?_
    refine S_seq rfl ?_
    refine S_draw ([row 9 1 A6 l.length c6 (l.map sv), pt b4 29 [.slice A4 C.length c4]]) sub_st (by kernel_rfl) rfl (by kernel_rfl) (by kernel_rfl : _ = 13) ?_
    refine D_take 0 rfl (T_loada (ds := [.slice A4 C.length c4]) rfl rfl rfl rfl (fun j v h => by simpa using h)) ?_ rfl rfl (by kernel_rfl) (by kernel_rfl)
    refine D_take 1 rfl (pev_ok rfl) ?_ rfl rfl (by kernel_rfl) (by kernel_rfl)
    refine D_take 2 rfl (pev_ok rfl) ?_ rfl rfl (by kernel_rfl) (by kernel_rfl)
    refine D_take 3 rfl (T_ixN rfl rfl rfl rfl rfl rfl hne6 hjl) ?_ rfl rfl (by kernel_rfl) (by kernel_rfl)
    refine D_take 4 rfl (T_ldr rfl rfl rfl (Srd.row (n := l.length) (c := c6)) (by omega) hat) ?_ rfl rfl (by kernel_rfl) (by kernel_rfl)
    refine D_one 5 rfl (E_saidW (L := C) (p := p) rfl rfl (Srd.old h4 (fun k _ => noOwns k)) (by omega) hq) ?_ rfl rfl (by kernel_rfl)
    rintro _ _ ⟨rfl, rfl⟩
    refine Nx_same sub_st ?_
    refine D_take 6 rfl (pev_ok rfl) ?_ rfl rfl (by kernel_rfl) (by kernel_rfl)
    refine D_take 7 rfl (pev_ok rfl) ?_ rfl rfl (by kernel_rfl) (by kernel_rfl)
    refine D_take 8 rfl (pev_ok rfl) ?_ rfl rfl (by kernel_rfl) (by kernel_rfl)
    refine D_take 9 rfl (pev_ok rfl) ?_ rfl rfl (by kernel_rfl) (by kernel_rfl)
    refine D_take 10 rfl (pev_ok rfl) ?_ rfl rfl (by kernel_rfl) (by kernel_rfl)
    refine D_take 11 rfl (pev_ok rfl) ?_ rfl rfl (by kernel_rfl) (by kernel_rfl)
    refine D_take 12 rfl (pev_ok rfl) ?_ rfl rfl (by kernel_rfl) (by kernel_rfl)
    refine D_done ?_ (by kernel_rfl)
    skip
    obtain ⟨x4, hx4⟩ : ∃ x, rres0 x1 x2 x3 q = x := ⟨_, rfl⟩
    rw [hx4] at hnx
    refine S_cut (X := Unit) (fun _ => [(4, .pointer (some ⟨b1, 0, none⟩)), (5, .pointer (some ⟨b2, 0, none⟩)), (6, .pointer (some ⟨b3, 0, none⟩)), (7, .pointer (some ⟨b4, 0, none⟩)), (8, .pointer (some ⟨b8, 0, none⟩)), (9, .pointer (some ⟨b9, 0, none⟩)), (10, .slice A6 l.length c6), (11, .int .i64 (j : Int)), (15, .pointer (some ⟨b15, 0, none⟩))]) (fun _ => [pt b15 50 (sdc x4), row 70 2 A8 O.length c8 (cellsL rwc O), row 9 1 A6 l.length c6 (l.map sv), pt b9 24 [.slice A8 O.length c8], pt b8 24 [.slice none 0 0], pt b4 29 [.slice A4 C.length c4], pt b3 24 [.slice A3 L3.length c3'], pt b2 24 [.slice A2 L2.length c2'], pt b1 24 [.slice A1 L1.length c1']]) (fun _ => True) (fun J2 hJ2 => ?_) (fun _ _ => ?_)
    · cases q with
      | none =>
        have e : x4 = x0 := by rw [← hx4, ← hx0]; rfl
        rw [e] at hJ2
        focus (refine S_seq rfl ?_; refine S_region rfl rfl ?_; refine R_p rfl ?_ rfl rfl; refine R_nil ?_; refine S_false rfl rfl ?_; refine S_skip rfl ?_)
        exact hJ2 () _ _ trivial (Sub.cons rfl (Sub.cons rfl (Sub.cons rfl (Sub.cons rfl (Sub.cons rfl (Sub.cons rfl (Sub.cons rfl (Sub.cons rfl (Sub.cons rfl Sub.nil))))))))) sub_st
      | some y =>
        obtain ⟨s, is, tx⟩ := y
        have e : x4 = (is, tx) := by rw [← hx4]; rfl
        rw [e] at hJ2
        focus (refine S_seq rfl ?_; refine S_region rfl rfl ?_; refine R_p rfl ?_ rfl rfl; refine R_nil ?_; refine S_true rfl rfl ?_; refine S_region rfl rfl ?_; refine R_p rfl ?_ rfl rfl; refine R_p rfl ?_ rfl rfl; refine R_take (T_build2 rfl rfl (sd_built2 _ _)) ?_ rfl rfl; (refine R_eff0 (E_storew (cs := sdc x0) (ds := sdc (is, tx)) rfl rfl rfl rfl (sdc_one _) rfl) ?_ rfl; rintro _ _ rfl); refine R_nil ?_)
        exact hJ2 () _ _ trivial (Sub.cons rfl (Sub.cons rfl (Sub.cons rfl (Sub.cons rfl (Sub.cons rfl (Sub.cons rfl (Sub.cons rfl (Sub.cons rfl (Sub.cons rfl Sub.nil))))))))) sub_st
    obtain ⟨is, tx⟩ := x4
    obtain ⟨O', hO'⟩ : ∃ O', (l.take (j + 1)).filterMap (rres1 L1 L2 L3 C) = O' := ⟨_, rfl⟩
    rw [hO'] at hnx
    cases is
    · have e : O' = O := by rw [hnx]; simp
      rw [e] at hO'
      focus (refine S_seq rfl ?_; refine S_region rfl rfl ?_; refine R_p rfl ?_ rfl rfl; refine R_take (T_load rfl rfl rfl rfl) ?_ rfl rfl; refine R_nil ?_; refine S_false rfl rfl ?_; refine S_skip rfl ?_; refine RS_blk ?_; refine S_region rfl rfl ?_; refine R_p rfl ?_ rfl rfl; refine R_take (T_addN rfl rfl (by unfold fits; omega)) ?_ rfl rfl; refine R_p rfl ?_ rfl rfl; refine R_nil ?_)
      refine hJ (j + 1, A8, c8) _ _ (by show j + 1 ≤ _; omega) ?_ (fun w' hS => ?_) (by show l.length - (j + 1) < _; omega)
      · dsimp only
        exact (Sub.cons rfl (Sub.cons rfl (Sub.cons rfl (Sub.cons rfl (Sub.cons rfl (Sub.cons rfl (Sub.cons rfl (Sub.cons rfl Sub.nil))))))))
      · dsimp only
        rw [hO']
        exact sub_st w' hS
    · have e : O' = O ++ [(p, tx)] := by rw [hnx]; rfl
      rw [e] at hO'
      focus (refine S_seq rfl ?_; refine S_region rfl rfl ?_; refine R_p rfl ?_ rfl rfl; refine R_take (T_load rfl rfl rfl rfl) ?_ rfl rfl; refine R_nil ?_; refine S_true rfl rfl ?_)
      refine S_draw ([row 9 1 A6 l.length c6 (l.map sv), pt b15 50 (sdc (true, tx)), pt b9 24 [.slice A8 O.length c8]]) sub_st (by kernel_rfl) rfl (by kernel_rfl) (by kernel_rfl : _ = 13) ?_
      refine D_take 0 rfl (pev_ok rfl) ?_ rfl rfl (by kernel_rfl) (by kernel_rfl)
      refine D_take 1 rfl (T_load rfl rfl rfl rfl) ?_ rfl rfl (by kernel_rfl) (by kernel_rfl)
      refine D_take 2 rfl (pev_ok rfl) ?_ rfl rfl (by kernel_rfl) (by kernel_rfl)
      refine D_take 3 rfl (pev_ok rfl) ?_ rfl rfl (by kernel_rfl) (by kernel_rfl)
      refine D_take 4 rfl (T_ixN rfl rfl rfl rfl rfl rfl hne6 hjl) ?_ rfl rfl (by kernel_rfl) (by kernel_rfl)
      refine D_take 5 rfl (T_ldr rfl rfl rfl (Srd.row (n := l.length) (c := c6)) (by omega) hat) ?_ rfl rfl (by kernel_rfl) (by kernel_rfl)
      refine D_take 6 rfl (pev_ok rfl) ?_ rfl rfl (by kernel_rfl) (by kernel_rfl)
      refine D_take 7 rfl (T_load rfl rfl rfl rfl) ?_ rfl rfl (by kernel_rfl) (by kernel_rfl)
      refine D_take 8 rfl (T_build2 rfl rfl (rw_built2 p tx)) ?_ rfl rfl (by kernel_rfl) (by kernel_rfl)
      refine D_one 9 rfl (E_litS (vs := [.agg (rwc (p, tx)).toArray]) (size := 2) (ds := rwc (p, tx)) rfl rfl rfl rfl rfl rfl (by simp [vcells, rwc]) rfl (by omega)) ?_ rfl rfl (by kernel_rfl)
      rintro _ _ ⟨vb, rfl, rfl⟩
      refine Nx_same sub_st ?_
      refine D_one 10 rfl (E_appS (sz := 2) (m := O.length) (c := c8) (A := A8) rfl rfl rfl rfl rfl rfl rfl (by decide) (Srd.pt (n := 1) (g := vb) (ds := rwc (p, tx)) rfl (fun j u hj => by rw [Nat.zero_add]; exact hj)) (rwc_one _) (by show (O.length + 1) * 32 ≤ _; omega) (by unfold maxLen; omega)) ?_ rfl rfl (by kernel_rfl)
      rintro _ _ ⟨A7, c7, rfl, rfl⟩
      refine Nx_same sub_st ?_
      refine D_take 11 rfl (pev_ok rfl) ?_ rfl rfl (by kernel_rfl) (by kernel_rfl)
      refine D_one 12 rfl (E_store1 rfl rfl rfl rfl rfl rfl (by first | (simp; done) | (simp; omega) | decide)) ?_ rfl rfl (by kernel_rfl)
      rintro _ _ rfl
      refine Nx_pivot (by kernel_rfl) ?_
      refine D_done ?_ (by kernel_rfl)
      skip
      focus (refine RS_blk ?_; refine S_region rfl rfl ?_; refine R_p rfl ?_ rfl rfl; refine R_take (T_addN rfl rfl (by unfold fits; omega)) ?_ rfl rfl; refine R_p rfl ?_ rfl rfl; refine R_nil ?_)
      have e1 : (O ++ [(p, tx)]).length = O.length + 1 := by simp
      refine hJ (j + 1, A7, c7) _ _ (by show j + 1 ≤ _; omega) ?_ (fun w' hS => ?_) (by show l.length - (j + 1) < _; omega)
      · dsimp only
        exact (Sub.cons rfl (Sub.cons rfl (Sub.cons rfl (Sub.cons rfl (Sub.cons rfl (Sub.cons rfl (Sub.cons rfl (Sub.cons rfl Sub.nil))))))))
      · dsimp only
        rw [hO', e1, cellsL_app, cellsL_one]
        simp only [Nat.add_zero, List.set_cons_zero] at hS
        exact sub_st w' hS
  have hend := hend (by omega)
  rw [hend] at hB
  focus (refine S_seq rfl ?_; refine S_seq rfl ?_; refine S_region rfl rfl ?_; refine R_p rfl ?_ rfl rfl; refine R_p rfl ?_ rfl rfl; refine R_p rfl ?_ rfl rfl; refine R_take (T_decF rfl (by omega)) ?_ rfl rfl; refine R_nil ?_; refine S_false rfl rfl ?_; refine S_exit rfl rfl ?_; refine S_seq rfl ?_; refine S_region rfl rfl ?_; refine R_take (T_loada (ds := [.slice A8 O.length c8]) rfl rfl rfl rfl (fun j v h => by simpa using h)) ?_ rfl rfl; (refine R_eff0 (E_storew (ds := [.slice A8 O.length c8]) (cs := [.slice none 0 0]) rfl rfl rfl rfl (sl_one _ _ _) rfl) ?_ rfl; rintro _ _ rfl); refine R_nil ?_)
  exact hB _ _ _ _ _ rfl (.cell rfl rfl rfl inferInstance rfl .nil) fun w' hS => ⟨(A8, c8), rfl, trivial, sub_st _ hS⟩
end Go.Proofs.Ytghfjfgpiomdhaa
