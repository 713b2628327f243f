/- The statement MergeMerges. -/
import Derived.Test.YtghfjfgpiomdhaaMeG
import Derived.Test.YtghfjfgpiomdhaaPmZ1
namespace Go.Proofs.Ytghfjfgpiomdhaa
open Go.RowKit Go.ChangeShapes Go.WideShapes Go.ChangeAt
open Asn (pt row rb)
set_option linter.unusedVariables false
set_option linter.unusedSimpArgs false
--@use N

theorem er_zero : ti34.zero = zi 0 := by kernel_rfl
set_option maxRecDepth 100000 in
set_option maxHeartbeats 4000000 in
theorem merges_any (w : World) (A1 : Option Addr) (c1' : Nat) (L1 : List Rw) (h1 : Rd w All 2 A1 L1.length (cellsL rwc L1)) (A2 : Option Addr) (c2' : Nat) (L2 : List Rw) (h2 : Rd w All 2 A2 L2.length (cellsL rwc L2)) (A3 : Option Addr) (c3' : Nat) (L3 : List Rw) (h3 : Rd w All 2 A3 L3.length (cellsL rwc L3)) (A4 : Option Addr) (c4 : Nat) (C : List Ch) (h4 : Rd w All 3 A4 C.length (cellsL chc C)) :
    Gives Try.prog 3 [.agg #[.slice A1 L1.length c1', .slice A2 L2.length c2', .slice A3 L3.length c3'], .agg #[.slice A4 C.length c4]] [] w (X := Unit) (fun _ => .bool true) (fun _ => True) (fun _ => []) := by
  refine gives_S Try.func3 rfl Try.ntmps3 Try.results3 (by simp) (St.enter w) (fun B hB => ?_)
  focus (refine S_seq rfl ?_; refine S_region rfl rfl ?_; (refine R_eff (E_boxa (cs := [.slice A1 L1.length c1', .slice A2 L2.length c2', .slice A3 L3.length c3']) rfl) ?_ rfl rfl; rintro _ _ ⟨b2, rfl, rfl⟩); (refine R_eff (E_boxa (cs := [.slice A4 C.length c4]) rfl) ?_ rfl rfl; rintro _ _ ⟨b3, rfl, rfl⟩); refine R_p rfl ?_ rfl rfl; refine R_nil ?_; refine S_seq rfl ?_; refine S_seq rfl ?_; refine S_region rfl rfl ?_; (refine R_eff (E_hv0 (f := 9) ⟨_, Try.func9, rfl, by kernel_rfl⟩ (fun w hS => wakes7_any w) rfl rfl (fun _ => rfl)) ?_ rfl rfl; rintro _ _ ⟨_, rfl, _, rfl⟩); refine R_take (T_not rfl) ?_ rfl rfl; refine R_nil ?_; refine S_false rfl rfl ?_; refine S_skip rfl ?_; refine S_seq rfl ?_; refine S_seq rfl ?_; refine S_region rfl rfl ?_; refine R_p rfl ?_ rfl rfl; refine R_take (T_loads (ds := [.slice A1 L1.length c1']) rfl rfl rfl rfl rfl) ?_ rfl rfl; refine R_p rfl ?_ rfl rfl; refine R_take (T_loads (ds := [.slice A2 L2.length c2']) rfl rfl rfl rfl rfl) ?_ rfl rfl; refine R_p rfl ?_ rfl rfl; refine R_take (T_loads (ds := [.slice A3 L3.length c3']) rfl rfl rfl rfl rfl) ?_ rfl rfl; (refine R_eff (E_litS (vs := [.agg #[.slice A1 L1.length c1'], .agg #[.slice A2 L2.length c2'], .agg #[.slice A3 L3.length c3']]) (size := 1) (ds := [.slice A1 L1.length c1', .slice A2 L2.length c2', .slice A3 L3.length c3']) rfl rfl rfl rfl rfl rfl (by simp [vcells]) rfl (by omega)) ?_ rfl rfl; rintro _ _ ⟨bl, rfl, rfl⟩); ((refine R_eff (E_hv0 (f := 10) ⟨_, Try.func10, rfl, by kernel_rfl⟩ (fun w hS => large7_any w (some ⟨bl, 0, none⟩) 3 [(A1, c1', L1), (A2, c2', L2), (A3, c3', L3)] ((Srd.pt (g := bl) (n := 3) (ds := [.slice A1 L1.length c1', .slice A2 L2.length c2', .slice A3 L3.length c3']) rfl (fun j u hj => by rw [Nat.zero_add]; exact hj)).rd w hS) (by simp) (rd_list3 ((Srd.old h1 (fun k _ => noOwns k)).rd w hS) ((Srd.old h2 (fun k _ => noOwns k)).rd w hS) ((Srd.old h3 (fun k _ => noOwns k)).rd w hS))) rfl rfl (fun _ => rfl)) ?_ rfl rfl; rintro _ _ ⟨bg, rfl, hbg, rfl⟩); cases bg); refine R_p rfl ?_ rfl rfl; refine R_take (T_loads (ds := [.slice A4 C.length c4]) rfl rfl rfl rfl rfl) ?_ rfl rfl; ((refine R_eff (E_hv0 (f := 11) ⟨_, Try.func11, rfl, by kernel_rfl⟩ (fun w hS => largeE_any w A4 c4 C ((Srd.old h4 (fun k _ => noOwns k)).rd w hS)) rfl rfl (fun _ => rfl)) ?_ rfl rfl; rintro _ _ ⟨bh, rfl, hbh, rfl⟩); cases bh); refine R_p rfl ?_ rfl rfl; refine R_nil ?_; refine S_false rfl rfl ?_; refine S_skip rfl ?_; refine S_seq rfl ?_; refine S_region rfl rfl ?_; refine R_take (T_loada (ds := [.slice A1 L1.length c1', .slice A2 L2.length c2', .slice A3 L3.length c3']) rfl rfl rfl rfl (fun j v h => by simpa using h)) ?_ rfl rfl; rotate_left; refine R_p rfl ?_ rfl rfl; refine R_nil ?_; refine S_true rfl rfl ?_; refine S_seq rfl ?_; refine S_region rfl rfl ?_; refine R_p rfl ?_ rfl rfl; refine R_nil ?_; rotate_left; refine R_p rfl ?_ rfl rfl; refine R_skip ?_ rfl rfl; refine R_skip ?_ rfl rfl; refine R_p rfl ?_ rfl rfl; refine R_nil ?_; refine S_true rfl rfl ?_; refine S_seq rfl ?_; refine S_region rfl rfl ?_; refine R_p rfl ?_ rfl rfl; refine R_nil ?_; rotate_left)
  rotate_left
  iterate 2 (first | (· exact hB _ _ _ _ _ rfl rfl fun w' hS => ⟨(), rfl, trivial, hS.sublist (List.nil_sublist _)⟩) | skip)
  have s1 := hbg rfl (A1, c1', L1) (by simp)
  have s1 : smallR L1 := s1
  have hp1 := smallR_pth s1
  have hn1 := s1.1
  have s2 := hbg rfl (A2, c2', L2) (by simp)
  have s2 : smallR L2 := s2
  have hp2 := smallR_pth s2
  have hn2 := s2.1
  have s3 := hbg rfl (A3, c3', L3) (by simp)
  have s3 : smallR L3 := s3
  have hp3 := smallR_pth s3
  have hn3 := s3.1

  have s4 := hbh rfl
  have hp4 := smallC_pth s4
  have hn4 := s4.1
  have hRl := mgR_len L1 L2 L3 C
  obtain ⟨R, hR⟩ : ∃ R, mgR L1 L2 L3 C = R := ⟨_, rfl⟩
  obtain ⟨e, he⟩ : ∃ e, mgE L1 L2 L3 C = e := ⟨_, rfl⟩
  rw [hR] at hRl
  focus ((refine R_eff (E_gv ⟨_, Try.func12, rfl, by kernel_rfl⟩ rfl (fun w hS => copied7_any w A1 A2 A3 c1' c2' c3' L1 L2 L3 ((Srd.old h1 (fun k _ => noOwns k)).rd w hS) ((Srd.old h2 (fun k _ => noOwns k)).rd w hS) ((Srd.old h3 (fun k _ => noOwns k)).rd w hS) (by omega) (by omega) (by omega))) ?_ rfl rfl; rintro _ _ ⟨⟨⟨A5, c5⟩, ⟨A6, c6⟩, ⟨A7, c7⟩⟩, rfl, _, rfl⟩; dsimp only [List.cons_append, List.nil_append]); (refine R_eff (E_alloca rfl three_zero) ?_ rfl rfl; rintro _ _ ⟨b5, rfl, rfl⟩); (refine R_eff0 (E_storew (cs := [.slice none 0 0, .slice none 0 0, .slice none 0 0]) (ds := [.slice A5 L1.length c5, .slice A6 L2.length c6, .slice A7 L3.length c7]) rfl rfl rfl rfl (by simp [Value.oneCell']) rfl) ?_ rfl; rintro _ _ rfl); refine R_nil ?_; refine S_seq rfl ?_)
  refine S_cut (X := Nat × Nat × Option Addr × Nat) (fun x => [(2, .pointer (some ⟨b2, 0, none⟩)), (3, .pointer (some ⟨b3, 0, none⟩)), (6, .pointer (some ⟨x.1, 0, none⟩)), (7, .pointer (some ⟨x.2.1, 0, none⟩))]) (fun x => [pt x.2.1 34 [zi e], pt x.1 24 [.slice x.2.2.1 R.length x.2.2.2], row 70 2 x.2.2.1 R.length x.2.2.2 (cellsL rwc R), pt b3 29 [.slice A4 C.length c4], pt b2 26 [.slice A1 L1.length c1', .slice A2 L2.length c2', .slice A3 L3.length c3']]) (fun _ => True) (fun J hJ => ?_) (fun x _ => ?_)
  · skip
    refine S_draw ([pt b5 26 [.slice A5 L1.length c5, .slice A6 L2.length c6, .slice A7 L3.length c7], pt b3 29 [.slice A4 C.length c4], pt b2 26 [.slice A1 L1.length c1', .slice A2 L2.length c2', .slice A3 L3.length c3']]) sub_st (by kernel_rfl) rfl (by kernel_rfl) (by kernel_rfl : _ = 19) ?_
    refine D_take 0 rfl (pev_ok rfl) ?_ rfl rfl (by kernel_rfl) (by kernel_rfl)
    refine D_take 1 rfl (T_loads (ds := [.slice A5 L1.length c5]) rfl rfl rfl rfl rfl) ?_ rfl rfl (by kernel_rfl) (by kernel_rfl)
    refine D_take 2 rfl (pev_ok rfl) ?_ rfl rfl (by kernel_rfl) (by kernel_rfl)
    refine D_take 3 rfl (T_loads (ds := [.slice A6 L2.length c6]) rfl rfl rfl rfl rfl) ?_ rfl rfl (by kernel_rfl) (by kernel_rfl)
    refine D_take 4 rfl (pev_ok rfl) ?_ rfl rfl (by kernel_rfl) (by kernel_rfl)
    refine D_take 5 rfl (T_loads (ds := [.slice A7 L3.length c7]) rfl rfl rfl rfl rfl) ?_ rfl rfl (by kernel_rfl) (by kernel_rfl)
    refine D_take 7 rfl (pev_ok rfl) ?_ rfl rfl (by kernel_rfl) (by kernel_rfl)
    refine D_take 8 rfl (T_load rfl rfl rfl (by first | rfl | assumption)) ?_ rfl rfl (by kernel_rfl) (by kernel_rfl)
    refine D_node #[true, true, true, true, true, true, true, true, true, true, true, true, true, true, true, true, true, false, false] (fun x : Nat × Option Addr × Nat × Option Addr × Nat × Nat × Nat => [(40, zi e), (39, .agg #[.slice x.2.2.2.1 R.length x.2.2.2.2.1]), (37, .agg #[.slice x.2.1 C.length x.2.2.1]), (7, .pointer (some ⟨x.2.2.2.2.2.2, 0, none⟩)), (6, .pointer (some ⟨x.2.2.2.2.2.1, 0, none⟩)), (38, .tuple #[.agg #[.slice x.2.2.2.1 R.length x.2.2.2.2.1], zi e]), (36, .slice x.2.1 C.length x.2.2.1), (33, .slice (some ⟨x.1, 0, none⟩) 0 0), (28, .agg #[.slice A5 L1.length c5]), (30, .agg #[.slice A6 L2.length c6]), (32, .agg #[.slice A7 L3.length c7]), (35, .slice A4 C.length c4), (2, .pointer (some ⟨b2, 0, none⟩)), (3, .pointer (some ⟨b3, 0, none⟩))]) (fun x : Nat × Option Addr × Nat × Option Addr × Nat × Nat × Nat => [pt x.2.2.2.2.2.2 34 [zi 0], pt x.2.2.2.2.2.1 24 [.slice none 0 0], row 70 2 x.2.2.2.1 R.length x.2.2.2.2.1 (cellsL rwc R), row 73 3 x.2.1 C.length x.2.2.1 (cellsL chc C), pt b5 26 [.slice A5 L1.length c5, .slice A6 L2.length c6, .slice A7 L3.length c7], row 70 2 A7 L3.length c7 (cellsL rwc L3), row 70 2 A6 L2.length c6 (cellsL rwc L2), row 70 2 A5 L1.length c5 (cellsL rwc L1), pt b3 29 [.slice A4 C.length c4], pt b2 26 [.slice A1 L1.length c1', .slice A2 L2.length c2', .slice A3 L3.length c3']]) (fun nd0 => ?_) (fun x => ?_)
    refine D_nodeR #[true, true, true, true, true, true, true, true, true, true, true, true, true, true, true, true, false, false, false] (fun x : Nat × Option Addr × Nat × Option Addr × Nat × Nat => [(40, zi e), (39, .agg #[.slice x.2.2.2.1 R.length x.2.2.2.2.1]), (37, .agg #[.slice x.2.1 C.length x.2.2.1]), (6, .pointer (some ⟨x.2.2.2.2.2, 0, none⟩)), (38, .tuple #[.agg #[.slice x.2.2.2.1 R.length x.2.2.2.2.1], zi e]), (36, .slice x.2.1 C.length x.2.2.1), (33, .slice (some ⟨x.1, 0, none⟩) 0 0), (28, .agg #[.slice A5 L1.length c5]), (30, .agg #[.slice A6 L2.length c6]), (32, .agg #[.slice A7 L3.length c7]), (35, .slice A4 C.length c4), (2, .pointer (some ⟨b2, 0, none⟩)), (3, .pointer (some ⟨b3, 0, none⟩))]) (fun x : Nat × Option Addr × Nat × Option Addr × Nat × Nat => [pt x.2.2.2.2.2 24 [.slice none 0 0], row 70 2 x.2.2.2.1 R.length x.2.2.2.2.1 (cellsL rwc R), row 73 3 x.2.1 C.length x.2.2.1 (cellsL chc C), pt b5 26 [.slice A5 L1.length c5, .slice A6 L2.length c6, .slice A7 L3.length c7], row 70 2 A7 L3.length c7 (cellsL rwc L3), row 70 2 A6 L2.length c6 (cellsL rwc L2), row 70 2 A5 L1.length c5 (cellsL rwc L1), pt b3 29 [.slice A4 C.length c4], pt b2 26 [.slice A1 L1.length c1', .slice A2 L2.length c2', .slice A3 L3.length c3']]) (fun x => ?_) (fun nd1 => ?_)
    · skip
      obtain ⟨bl, A8, c8, A9, c9, b6⟩ := x
      try dsimp only
      refine D_one 16 rfl (E_alloc1 rfl er_zero rfl) ?_ rfl rfl (by kernel_rfl)
      rintro _ _ ⟨b7, rfl, rfl⟩
      refine Nx_same sub_st ?_
      have h := nd0 (bl, A8, c8, A9, c9, b6, b7)
      try dsimp only at h
      exact D_at h (by repeat first | exact Sub.nil | refine Sub.cons rfl ?_) sub_st (by kernel_rfl)
    refine D_nodeR #[true, true, true, true, true, true, true, true, true, true, true, true, true, true, true, false, true, false, false] (fun x : Nat × Option Addr × Nat × Option Addr × Nat × Nat => [(40, zi e), (39, .agg #[.slice x.2.2.2.1 R.length x.2.2.2.2.1]), (37, .agg #[.slice x.2.1 C.length x.2.2.1]), (7, .pointer (some ⟨x.2.2.2.2.2, 0, none⟩)), (38, .tuple #[.agg #[.slice x.2.2.2.1 R.length x.2.2.2.2.1], zi e]), (36, .slice x.2.1 C.length x.2.2.1), (33, .slice (some ⟨x.1, 0, none⟩) 0 0), (28, .agg #[.slice A5 L1.length c5]), (30, .agg #[.slice A6 L2.length c6]), (32, .agg #[.slice A7 L3.length c7]), (35, .slice A4 C.length c4), (2, .pointer (some ⟨b2, 0, none⟩)), (3, .pointer (some ⟨b3, 0, none⟩))]) (fun x : Nat × Option Addr × Nat × Option Addr × Nat × Nat => [pt x.2.2.2.2.2 34 [zi 0], row 70 2 x.2.2.2.1 R.length x.2.2.2.2.1 (cellsL rwc R), row 73 3 x.2.1 C.length x.2.2.1 (cellsL chc C), pt b5 26 [.slice A5 L1.length c5, .slice A6 L2.length c6, .slice A7 L3.length c7], row 70 2 A7 L3.length c7 (cellsL rwc L3), row 70 2 A6 L2.length c6 (cellsL rwc L2), row 70 2 A5 L1.length c5 (cellsL rwc L1), pt b3 29 [.slice A4 C.length c4], pt b2 26 [.slice A1 L1.length c1', .slice A2 L2.length c2', .slice A3 L3.length c3']]) (fun x => ?_) (fun nd2 => ?_)
    · skip
      obtain ⟨bl, A8, c8, A9, c9, b7⟩ := x
      try dsimp only
      refine D_one 15 rfl (E_alloca rfl mp_alloc) ?_ rfl rfl (by kernel_rfl)
      rintro _ _ ⟨b6, rfl, rfl⟩
      refine Nx_same sub_st ?_
      have h := nd0 (bl, A8, c8, A9, c9, b6, b7)
      try dsimp only at h
      exact D_at h (by repeat first | exact Sub.nil | refine Sub.cons rfl ?_) sub_st (by kernel_rfl)
    refine D_nodeR #[true, true, true, true, true, true, true, true, true, true, true, true, true, true, true, false, false, false, false] (fun x : Nat × Option Addr × Nat × Option Addr × Nat => [(40, zi e), (39, .agg #[.slice x.2.2.2.1 R.length x.2.2.2.2]), (37, .agg #[.slice x.2.1 C.length x.2.2.1]), (38, .tuple #[.agg #[.slice x.2.2.2.1 R.length x.2.2.2.2], zi e]), (36, .slice x.2.1 C.length x.2.2.1), (33, .slice (some ⟨x.1, 0, none⟩) 0 0), (28, .agg #[.slice A5 L1.length c5]), (30, .agg #[.slice A6 L2.length c6]), (32, .agg #[.slice A7 L3.length c7]), (35, .slice A4 C.length c4), (2, .pointer (some ⟨b2, 0, none⟩)), (3, .pointer (some ⟨b3, 0, none⟩))]) (fun x : Nat × Option Addr × Nat × Option Addr × Nat => [row 70 2 x.2.2.2.1 R.length x.2.2.2.2 (cellsL rwc R), row 73 3 x.2.1 C.length x.2.2.1 (cellsL chc C), pt b5 26 [.slice A5 L1.length c5, .slice A6 L2.length c6, .slice A7 L3.length c7], row 70 2 A7 L3.length c7 (cellsL rwc L3), row 70 2 A6 L2.length c6 (cellsL rwc L2), row 70 2 A5 L1.length c5 (cellsL rwc L1), pt b3 29 [.slice A4 C.length c4], pt b2 26 [.slice A1 L1.length c1', .slice A2 L2.length c2', .slice A3 L3.length c3']]) (fun x => ?_) (fun nd3 => ?_)
    · skip
      obtain ⟨bl, A8, c8, A9, c9⟩ := x
      try dsimp only
      refine D_two 15 16 (by decide) rfl rfl (E_alloca rfl mp_alloc) (E_alloc1 rfl er_zero rfl) ?_ ?_ rfl rfl rfl rfl (by kernel_rfl)
      · rintro _ _ ⟨b6, rfl, rfl⟩
        refine Nx_same sub_st ?_
        have h := nd1 (bl, A8, c8, A9, c9, b6)
        try dsimp only at h
        exact D_at h (by repeat first | exact Sub.nil | refine Sub.cons rfl ?_) sub_st (by kernel_rfl)
      · rintro _ _ ⟨b7, rfl, rfl⟩
        refine Nx_same sub_st ?_
        have h := nd2 (bl, A8, c8, A9, c9, b7)
        try dsimp only at h
        exact D_at h (by repeat first | exact Sub.nil | refine Sub.cons rfl ?_) sub_st (by kernel_rfl)
    refine D_nodeR #[true, true, true, true, true, true, true, true, true, true, true, false, false, false, false, true, true, false, false] (fun x : Nat × Option Addr × Nat × Nat × Nat => [(37, .agg #[.slice x.2.1 C.length x.2.2.1]), (7, .pointer (some ⟨x.2.2.2.2, 0, none⟩)), (6, .pointer (some ⟨x.2.2.2.1, 0, none⟩)), (36, .slice x.2.1 C.length x.2.2.1), (33, .slice (some ⟨x.1, 0, none⟩) 0 0), (28, .agg #[.slice A5 L1.length c5]), (30, .agg #[.slice A6 L2.length c6]), (32, .agg #[.slice A7 L3.length c7]), (35, .slice A4 C.length c4), (2, .pointer (some ⟨b2, 0, none⟩)), (3, .pointer (some ⟨b3, 0, none⟩))]) (fun x : Nat × Option Addr × Nat × Nat × Nat => [pt x.2.2.2.2 34 [zi 0], pt x.2.2.2.1 24 [.slice none 0 0], row 73 3 x.2.1 C.length x.2.2.1 (cellsL chc C), pt b5 26 [.slice A5 L1.length c5, .slice A6 L2.length c6, .slice A7 L3.length c7], row 70 2 A7 L3.length c7 (cellsL rwc L3), row 70 2 A6 L2.length c6 (cellsL rwc L2), row 70 2 A5 L1.length c5 (cellsL rwc L1), pt b3 29 [.slice A4 C.length c4], pt b2 26 [.slice A1 L1.length c1', .slice A2 L2.length c2', .slice A3 L3.length c3']]) (fun x => ?_) (fun nd4 => ?_)
    · skip
      obtain ⟨bl, A8, c8, b6, b7⟩ := x
      try dsimp only
      refine D_one 11 rfl (E_hv1 (f := 13) ⟨_, Try.func13, rfl, by kernel_rfl⟩ (fun w hS => merge_any w A5 A6 A7 c5 c6 c7 L1 L2 L3 ((Srd.row (A := A5) (n := L1.length) (c := c5)).rd w hS) ((Srd.row (A := A6) (n := L2.length) (c := c6)).rd w hS) ((Srd.row (A := A7) (n := L3.length) (c := c7)).rd w hS) (by omega) (by omega) (by omega) hp1 hp2 hp3 A8 c8 C ((Srd.row (A := A8) (n := C.length) (c := c8)).rd w hS) (by omega) hp4) rfl rfl (fun _ => rfl)) ?_ rfl rfl (by kernel_rfl)
      rintro _ _ ⟨⟨A9, c9⟩, rfl, _, rfl⟩; rw [hR, he]
      refine Nx_same sub_st ?_
      refine D_take 12 rfl (pev_ok rfl) ?_ rfl rfl (by kernel_rfl) (by kernel_rfl)
      refine D_take 13 rfl (pev_ok rfl) ?_ rfl rfl (by kernel_rfl) (by kernel_rfl)
      refine D_take 14 rfl (pev_ok rfl) ?_ rfl rfl (by kernel_rfl) (by kernel_rfl)
      have h := nd0 (bl, A8, c8, A9, c9, b6, b7)
      try dsimp only at h
      exact D_at h (by repeat first | exact Sub.nil | refine Sub.cons rfl ?_) sub_st (by kernel_rfl)
    refine D_nodeR #[true, true, true, true, true, true, true, true, true, true, true, false, false, false, false, true, false, false, false] (fun x : Nat × Option Addr × Nat × Nat => [(37, .agg #[.slice x.2.1 C.length x.2.2.1]), (6, .pointer (some ⟨x.2.2.2, 0, none⟩)), (36, .slice x.2.1 C.length x.2.2.1), (33, .slice (some ⟨x.1, 0, none⟩) 0 0), (28, .agg #[.slice A5 L1.length c5]), (30, .agg #[.slice A6 L2.length c6]), (32, .agg #[.slice A7 L3.length c7]), (35, .slice A4 C.length c4), (2, .pointer (some ⟨b2, 0, none⟩)), (3, .pointer (some ⟨b3, 0, none⟩))]) (fun x : Nat × Option Addr × Nat × Nat => [pt x.2.2.2 24 [.slice none 0 0], row 73 3 x.2.1 C.length x.2.2.1 (cellsL chc C), pt b5 26 [.slice A5 L1.length c5, .slice A6 L2.length c6, .slice A7 L3.length c7], row 70 2 A7 L3.length c7 (cellsL rwc L3), row 70 2 A6 L2.length c6 (cellsL rwc L2), row 70 2 A5 L1.length c5 (cellsL rwc L1), pt b3 29 [.slice A4 C.length c4], pt b2 26 [.slice A1 L1.length c1', .slice A2 L2.length c2', .slice A3 L3.length c3']]) (fun x => ?_) (fun nd5 => ?_)
    · skip
      obtain ⟨bl, A8, c8, b6⟩ := x
      try dsimp only
      refine D_two 11 16 (by decide) rfl rfl (E_hv1 (f := 13) ⟨_, Try.func13, rfl, by kernel_rfl⟩ (fun w hS => merge_any w A5 A6 A7 c5 c6 c7 L1 L2 L3 ((Srd.row (A := A5) (n := L1.length) (c := c5)).rd w hS) ((Srd.row (A := A6) (n := L2.length) (c := c6)).rd w hS) ((Srd.row (A := A7) (n := L3.length) (c := c7)).rd w hS) (by omega) (by omega) (by omega) hp1 hp2 hp3 A8 c8 C ((Srd.row (A := A8) (n := C.length) (c := c8)).rd w hS) (by omega) hp4) rfl rfl (fun _ => rfl)) (E_alloc1 rfl er_zero rfl) ?_ ?_ rfl rfl rfl rfl (by kernel_rfl)
      · rintro _ _ ⟨⟨A9, c9⟩, rfl, _, rfl⟩; rw [hR, he]
        refine Nx_same sub_st ?_
        refine D_take 12 rfl (pev_ok rfl) ?_ rfl rfl (by kernel_rfl) (by kernel_rfl)
        refine D_take 13 rfl (pev_ok rfl) ?_ rfl rfl (by kernel_rfl) (by kernel_rfl)
        refine D_take 14 rfl (pev_ok rfl) ?_ rfl rfl (by kernel_rfl) (by kernel_rfl)
        have h := nd1 (bl, A8, c8, A9, c9, b6)
        try dsimp only at h
        exact D_at h (by repeat first | exact Sub.nil | refine Sub.cons rfl ?_) sub_st (by kernel_rfl)
      · rintro _ _ ⟨b7, rfl, rfl⟩
        refine Nx_same sub_st ?_
        have h := nd4 (bl, A8, c8, b6, b7)
        try dsimp only at h
        exact D_at h (by repeat first | exact Sub.nil | refine Sub.cons rfl ?_) sub_st (by kernel_rfl)
    refine D_nodeR #[true, true, true, true, true, true, true, true, true, true, true, false, false, false, false, false, true, false, false] (fun x : Nat × Option Addr × Nat × Nat => [(37, .agg #[.slice x.2.1 C.length x.2.2.1]), (7, .pointer (some ⟨x.2.2.2, 0, none⟩)), (36, .slice x.2.1 C.length x.2.2.1), (33, .slice (some ⟨x.1, 0, none⟩) 0 0), (28, .agg #[.slice A5 L1.length c5]), (30, .agg #[.slice A6 L2.length c6]), (32, .agg #[.slice A7 L3.length c7]), (35, .slice A4 C.length c4), (2, .pointer (some ⟨b2, 0, none⟩)), (3, .pointer (some ⟨b3, 0, none⟩))]) (fun x : Nat × Option Addr × Nat × Nat => [pt x.2.2.2 34 [zi 0], row 73 3 x.2.1 C.length x.2.2.1 (cellsL chc C), pt b5 26 [.slice A5 L1.length c5, .slice A6 L2.length c6, .slice A7 L3.length c7], row 70 2 A7 L3.length c7 (cellsL rwc L3), row 70 2 A6 L2.length c6 (cellsL rwc L2), row 70 2 A5 L1.length c5 (cellsL rwc L1), pt b3 29 [.slice A4 C.length c4], pt b2 26 [.slice A1 L1.length c1', .slice A2 L2.length c2', .slice A3 L3.length c3']]) (fun x => ?_) (fun nd6 => ?_)
    · skip
      obtain ⟨bl, A8, c8, b7⟩ := x
      try dsimp only
      refine D_two 11 15 (by decide) rfl rfl (E_hv1 (f := 13) ⟨_, Try.func13, rfl, by kernel_rfl⟩ (fun w hS => merge_any w A5 A6 A7 c5 c6 c7 L1 L2 L3 ((Srd.row (A := A5) (n := L1.length) (c := c5)).rd w hS) ((Srd.row (A := A6) (n := L2.length) (c := c6)).rd w hS) ((Srd.row (A := A7) (n := L3.length) (c := c7)).rd w hS) (by omega) (by omega) (by omega) hp1 hp2 hp3 A8 c8 C ((Srd.row (A := A8) (n := C.length) (c := c8)).rd w hS) (by omega) hp4) rfl rfl (fun _ => rfl)) (E_alloca rfl mp_alloc) ?_ ?_ rfl rfl rfl rfl (by kernel_rfl)
      · rintro _ _ ⟨⟨A9, c9⟩, rfl, _, rfl⟩; rw [hR, he]
        refine Nx_same sub_st ?_
        refine D_take 12 rfl (pev_ok rfl) ?_ rfl rfl (by kernel_rfl) (by kernel_rfl)
        refine D_take 13 rfl (pev_ok rfl) ?_ rfl rfl (by kernel_rfl) (by kernel_rfl)
        refine D_take 14 rfl (pev_ok rfl) ?_ rfl rfl (by kernel_rfl) (by kernel_rfl)
        have h := nd2 (bl, A8, c8, A9, c9, b7)
        try dsimp only at h
        exact D_at h (by repeat first | exact Sub.nil | refine Sub.cons rfl ?_) sub_st (by kernel_rfl)
      · rintro _ _ ⟨b6, rfl, rfl⟩
        refine Nx_same sub_st ?_
        have h := nd4 (bl, A8, c8, b6, b7)
        try dsimp only at h
        exact D_at h (by repeat first | exact Sub.nil | refine Sub.cons rfl ?_) sub_st (by kernel_rfl)
    refine D_nodeR #[true, true, true, true, true, true, true, true, true, true, true, false, false, false, false, false, false, false, false] (fun x : Nat × Option Addr × Nat => [(37, .agg #[.slice x.2.1 C.length x.2.2]), (36, .slice x.2.1 C.length x.2.2), (33, .slice (some ⟨x.1, 0, none⟩) 0 0), (28, .agg #[.slice A5 L1.length c5]), (30, .agg #[.slice A6 L2.length c6]), (32, .agg #[.slice A7 L3.length c7]), (35, .slice A4 C.length c4), (2, .pointer (some ⟨b2, 0, none⟩)), (3, .pointer (some ⟨b3, 0, none⟩))]) (fun x : Nat × Option Addr × Nat => [row 73 3 x.2.1 C.length x.2.2 (cellsL chc C), pt b5 26 [.slice A5 L1.length c5, .slice A6 L2.length c6, .slice A7 L3.length c7], row 70 2 A7 L3.length c7 (cellsL rwc L3), row 70 2 A6 L2.length c6 (cellsL rwc L2), row 70 2 A5 L1.length c5 (cellsL rwc L1), pt b3 29 [.slice A4 C.length c4], pt b2 26 [.slice A1 L1.length c1', .slice A2 L2.length c2', .slice A3 L3.length c3']]) (fun x => ?_) (fun nd7 => ?_)
    · skip
      obtain ⟨bl, A8, c8⟩ := x
      try dsimp only
      refine D_three 11 15 16 rfl rfl rfl (E_hv1 (f := 13) ⟨_, Try.func13, rfl, by kernel_rfl⟩ (fun w hS => merge_any w A5 A6 A7 c5 c6 c7 L1 L2 L3 ((Srd.row (A := A5) (n := L1.length) (c := c5)).rd w hS) ((Srd.row (A := A6) (n := L2.length) (c := c6)).rd w hS) ((Srd.row (A := A7) (n := L3.length) (c := c7)).rd w hS) (by omega) (by omega) (by omega) hp1 hp2 hp3 A8 c8 C ((Srd.row (A := A8) (n := C.length) (c := c8)).rd w hS) (by omega) hp4) rfl rfl (fun _ => rfl)) (E_alloca rfl mp_alloc) (E_alloc1 rfl er_zero rfl) ?_ ?_ ?_ rfl rfl rfl rfl rfl rfl (by kernel_rfl)
      · rintro _ _ ⟨⟨A9, c9⟩, rfl, _, rfl⟩; rw [hR, he]
        refine Nx_same sub_st ?_
        refine D_take 12 rfl (pev_ok rfl) ?_ rfl rfl (by kernel_rfl) (by kernel_rfl)
        refine D_take 13 rfl (pev_ok rfl) ?_ rfl rfl (by kernel_rfl) (by kernel_rfl)
        refine D_take 14 rfl (pev_ok rfl) ?_ rfl rfl (by kernel_rfl) (by kernel_rfl)
        have h := nd3 (bl, A8, c8, A9, c9)
        try dsimp only at h
        exact D_at h (by repeat first | exact Sub.nil | refine Sub.cons rfl ?_) sub_st (by kernel_rfl)
      · rintro _ _ ⟨b6, rfl, rfl⟩
        refine Nx_same sub_st ?_
        have h := nd5 (bl, A8, c8, b6)
        try dsimp only at h
        exact D_at h (by repeat first | exact Sub.nil | refine Sub.cons rfl ?_) sub_st (by kernel_rfl)
      · rintro _ _ ⟨b7, rfl, rfl⟩
        refine Nx_same sub_st ?_
        have h := nd6 (bl, A8, c8, b7)
        try dsimp only at h
        exact D_at h (by repeat first | exact Sub.nil | refine Sub.cons rfl ?_) sub_st (by kernel_rfl)
    refine D_nodeR #[true, true, true, true, true, true, true, true, true, false, false, false, false, false, false, true, true, false, false] (fun x : Nat × Nat × Nat => [(7, .pointer (some ⟨x.2.2, 0, none⟩)), (6, .pointer (some ⟨x.2.1, 0, none⟩)), (33, .slice (some ⟨x.1, 0, none⟩) 0 0), (28, .agg #[.slice A5 L1.length c5]), (30, .agg #[.slice A6 L2.length c6]), (32, .agg #[.slice A7 L3.length c7]), (35, .slice A4 C.length c4), (2, .pointer (some ⟨b2, 0, none⟩)), (3, .pointer (some ⟨b3, 0, none⟩))]) (fun x : Nat × Nat × Nat => [pt x.2.2 34 [zi 0], pt x.2.1 24 [.slice none 0 0], pt x.1 73 [], pt b5 26 [.slice A5 L1.length c5, .slice A6 L2.length c6, .slice A7 L3.length c7], row 70 2 A7 L3.length c7 (cellsL rwc L3), row 70 2 A6 L2.length c6 (cellsL rwc L2), row 70 2 A5 L1.length c5 (cellsL rwc L1), pt b3 29 [.slice A4 C.length c4], pt b2 26 [.slice A1 L1.length c1', .slice A2 L2.length c2', .slice A3 L3.length c3']]) (fun x => ?_) (fun nd8 => ?_)
    · skip
      obtain ⟨bl, b6, b7⟩ := x
      try dsimp only
      refine D_one 9 rfl (E_apple (sz := 3) (news := cellsL chc C) rfl rfl rfl rfl rfl rfl rfl (by decide) (by first | exact .here | exact .there .here | exact .there (.there .here)) (Srd.old h4 (fun k _ => noOwns k)) (ch_ones C) (by show C.length * 40 ≤ _; omega) (by unfold maxLen; omega)) ?_ rfl rfl (by kernel_rfl)
      rintro _ _ ⟨A8, c8, rfl, rfl⟩
      refine Nx_same sub_st ?_
      refine D_take 10 rfl (T_build1 rfl (ed_built1 _ _ _)) ?_ rfl rfl (by kernel_rfl) (by kernel_rfl)
      have h := nd4 (bl, A8, c8, b6, b7)
      try dsimp only at h
      exact D_at h (by repeat first | exact Sub.nil | refine Sub.cons rfl ?_) sub_st (by kernel_rfl)
    refine D_nodeR #[true, true, true, true, true, true, true, true, true, false, false, false, false, false, false, true, false, false, false] (fun x : Nat × Nat => [(6, .pointer (some ⟨x.2, 0, none⟩)), (33, .slice (some ⟨x.1, 0, none⟩) 0 0), (28, .agg #[.slice A5 L1.length c5]), (30, .agg #[.slice A6 L2.length c6]), (32, .agg #[.slice A7 L3.length c7]), (35, .slice A4 C.length c4), (2, .pointer (some ⟨b2, 0, none⟩)), (3, .pointer (some ⟨b3, 0, none⟩))]) (fun x : Nat × Nat => [pt x.2 24 [.slice none 0 0], pt x.1 73 [], pt b5 26 [.slice A5 L1.length c5, .slice A6 L2.length c6, .slice A7 L3.length c7], row 70 2 A7 L3.length c7 (cellsL rwc L3), row 70 2 A6 L2.length c6 (cellsL rwc L2), row 70 2 A5 L1.length c5 (cellsL rwc L1), pt b3 29 [.slice A4 C.length c4], pt b2 26 [.slice A1 L1.length c1', .slice A2 L2.length c2', .slice A3 L3.length c3']]) (fun x => ?_) (fun nd9 => ?_)
    · skip
      obtain ⟨bl, b6⟩ := x
      try dsimp only
      refine D_two 9 16 (by decide) rfl rfl (E_apple (sz := 3) (news := cellsL chc C) rfl rfl rfl rfl rfl rfl rfl (by decide) (by first | exact .here | exact .there .here | exact .there (.there .here)) (Srd.old h4 (fun k _ => noOwns k)) (ch_ones C) (by show C.length * 40 ≤ _; omega) (by unfold maxLen; omega)) (E_alloc1 rfl er_zero rfl) ?_ ?_ rfl rfl rfl rfl (by kernel_rfl)
      · rintro _ _ ⟨A8, c8, rfl, rfl⟩
        refine Nx_same sub_st ?_
        refine D_take 10 rfl (T_build1 rfl (ed_built1 _ _ _)) ?_ rfl rfl (by kernel_rfl) (by kernel_rfl)
        have h := nd5 (bl, A8, c8, b6)
        try dsimp only at h
        exact D_at h (by repeat first | exact Sub.nil | refine Sub.cons rfl ?_) sub_st (by kernel_rfl)
      · rintro _ _ ⟨b7, rfl, rfl⟩
        refine Nx_same sub_st ?_
        have h := nd8 (bl, b6, b7)
        try dsimp only at h
        exact D_at h (by repeat first | exact Sub.nil | refine Sub.cons rfl ?_) sub_st (by kernel_rfl)
    refine D_nodeR #[true, true, true, true, true, true, true, true, true, false, false, false, false, false, false, false, true, false, false] (fun x : Nat × Nat => [(7, .pointer (some ⟨x.2, 0, none⟩)), (33, .slice (some ⟨x.1, 0, none⟩) 0 0), (28, .agg #[.slice A5 L1.length c5]), (30, .agg #[.slice A6 L2.length c6]), (32, .agg #[.slice A7 L3.length c7]), (35, .slice A4 C.length c4), (2, .pointer (some ⟨b2, 0, none⟩)), (3, .pointer (some ⟨b3, 0, none⟩))]) (fun x : Nat × Nat => [pt x.2 34 [zi 0], pt x.1 73 [], pt b5 26 [.slice A5 L1.length c5, .slice A6 L2.length c6, .slice A7 L3.length c7], row 70 2 A7 L3.length c7 (cellsL rwc L3), row 70 2 A6 L2.length c6 (cellsL rwc L2), row 70 2 A5 L1.length c5 (cellsL rwc L1), pt b3 29 [.slice A4 C.length c4], pt b2 26 [.slice A1 L1.length c1', .slice A2 L2.length c2', .slice A3 L3.length c3']]) (fun x => ?_) (fun nd10 => ?_)
    · skip
      obtain ⟨bl, b7⟩ := x
      try dsimp only
      refine D_two 9 15 (by decide) rfl rfl (E_apple (sz := 3) (news := cellsL chc C) rfl rfl rfl rfl rfl rfl rfl (by decide) (by first | exact .here | exact .there .here | exact .there (.there .here)) (Srd.old h4 (fun k _ => noOwns k)) (ch_ones C) (by show C.length * 40 ≤ _; omega) (by unfold maxLen; omega)) (E_alloca rfl mp_alloc) ?_ ?_ rfl rfl rfl rfl (by kernel_rfl)
      · rintro _ _ ⟨A8, c8, rfl, rfl⟩
        refine Nx_same sub_st ?_
        refine D_take 10 rfl (T_build1 rfl (ed_built1 _ _ _)) ?_ rfl rfl (by kernel_rfl) (by kernel_rfl)
        have h := nd6 (bl, A8, c8, b7)
        try dsimp only at h
        exact D_at h (by repeat first | exact Sub.nil | refine Sub.cons rfl ?_) sub_st (by kernel_rfl)
      · rintro _ _ ⟨b6, rfl, rfl⟩
        refine Nx_same sub_st ?_
        have h := nd8 (bl, b6, b7)
        try dsimp only at h
        exact D_at h (by repeat first | exact Sub.nil | refine Sub.cons rfl ?_) sub_st (by kernel_rfl)
    refine D_nodeR #[true, true, true, true, true, true, false, true, true, false, false, false, false, false, false, true, true, false, false] (fun x : Nat × Nat => [(7, .pointer (some ⟨x.2, 0, none⟩)), (6, .pointer (some ⟨x.1, 0, none⟩)), (28, .agg #[.slice A5 L1.length c5]), (30, .agg #[.slice A6 L2.length c6]), (32, .agg #[.slice A7 L3.length c7]), (35, .slice A4 C.length c4), (2, .pointer (some ⟨b2, 0, none⟩)), (3, .pointer (some ⟨b3, 0, none⟩))]) (fun x : Nat × Nat => [pt x.2 34 [zi 0], pt x.1 24 [.slice none 0 0], pt b5 26 [.slice A5 L1.length c5, .slice A6 L2.length c6, .slice A7 L3.length c7], row 70 2 A7 L3.length c7 (cellsL rwc L3), row 70 2 A6 L2.length c6 (cellsL rwc L2), row 70 2 A5 L1.length c5 (cellsL rwc L1), pt b3 29 [.slice A4 C.length c4], pt b2 26 [.slice A1 L1.length c1', .slice A2 L2.length c2', .slice A3 L3.length c3']]) (fun x => ?_) (fun nd11 => ?_)
    · skip
      obtain ⟨b6, b7⟩ := x
      try dsimp only
      refine D_one 6 rfl (E_litS (vs := []) (size := 3) (ds := []) rfl rfl rfl rfl rfl rfl (by simp) rfl (by omega)) ?_ rfl rfl (by kernel_rfl)
      rintro _ _ ⟨bl, rfl, rfl⟩
      refine Nx_same sub_st ?_
      have h := nd8 (bl, b6, b7)
      try dsimp only at h
      exact D_at h (by repeat first | exact Sub.nil | refine Sub.cons rfl ?_) sub_st (by kernel_rfl)
    refine D_nodeR #[true, true, true, true, true, true, true, true, true, false, false, false, false, false, false, false, false, false, false] (fun x : Nat => [(33, .slice (some ⟨x, 0, none⟩) 0 0), (28, .agg #[.slice A5 L1.length c5]), (30, .agg #[.slice A6 L2.length c6]), (32, .agg #[.slice A7 L3.length c7]), (35, .slice A4 C.length c4), (2, .pointer (some ⟨b2, 0, none⟩)), (3, .pointer (some ⟨b3, 0, none⟩))]) (fun x : Nat => [pt x 73 [], pt b5 26 [.slice A5 L1.length c5, .slice A6 L2.length c6, .slice A7 L3.length c7], row 70 2 A7 L3.length c7 (cellsL rwc L3), row 70 2 A6 L2.length c6 (cellsL rwc L2), row 70 2 A5 L1.length c5 (cellsL rwc L1), pt b3 29 [.slice A4 C.length c4], pt b2 26 [.slice A1 L1.length c1', .slice A2 L2.length c2', .slice A3 L3.length c3']]) (fun x => ?_) (fun nd12 => ?_)
    · skip
      revert x; intro bl
      try dsimp only
      refine D_three 9 15 16 rfl rfl rfl (E_apple (sz := 3) (news := cellsL chc C) rfl rfl rfl rfl rfl rfl rfl (by decide) (by first | exact .here | exact .there .here | exact .there (.there .here)) (Srd.old h4 (fun k _ => noOwns k)) (ch_ones C) (by show C.length * 40 ≤ _; omega) (by unfold maxLen; omega)) (E_alloca rfl mp_alloc) (E_alloc1 rfl er_zero rfl) ?_ ?_ ?_ rfl rfl rfl rfl rfl rfl (by kernel_rfl)
      · rintro _ _ ⟨A8, c8, rfl, rfl⟩
        refine Nx_same sub_st ?_
        refine D_take 10 rfl (T_build1 rfl (ed_built1 _ _ _)) ?_ rfl rfl (by kernel_rfl) (by kernel_rfl)
        have h := nd7 (bl, A8, c8)
        try dsimp only at h
        exact D_at h (by repeat first | exact Sub.nil | refine Sub.cons rfl ?_) sub_st (by kernel_rfl)
      · rintro _ _ ⟨b6, rfl, rfl⟩
        refine Nx_same sub_st ?_
        have h := nd9 (bl, b6)
        try dsimp only at h
        exact D_at h (by repeat first | exact Sub.nil | refine Sub.cons rfl ?_) sub_st (by kernel_rfl)
      · rintro _ _ ⟨b7, rfl, rfl⟩
        refine Nx_same sub_st ?_
        have h := nd10 (bl, b7)
        try dsimp only at h
        exact D_at h (by repeat first | exact Sub.nil | refine Sub.cons rfl ?_) sub_st (by kernel_rfl)
    refine D_nodeR #[true, true, true, true, true, true, false, true, true, false, false, false, false, false, false, true, false, false, false] (fun x : Nat => [(6, .pointer (some ⟨x, 0, none⟩)), (28, .agg #[.slice A5 L1.length c5]), (30, .agg #[.slice A6 L2.length c6]), (32, .agg #[.slice A7 L3.length c7]), (35, .slice A4 C.length c4), (2, .pointer (some ⟨b2, 0, none⟩)), (3, .pointer (some ⟨b3, 0, none⟩))]) (fun x : Nat => [pt x 24 [.slice none 0 0], pt b5 26 [.slice A5 L1.length c5, .slice A6 L2.length c6, .slice A7 L3.length c7], row 70 2 A7 L3.length c7 (cellsL rwc L3), row 70 2 A6 L2.length c6 (cellsL rwc L2), row 70 2 A5 L1.length c5 (cellsL rwc L1), pt b3 29 [.slice A4 C.length c4], pt b2 26 [.slice A1 L1.length c1', .slice A2 L2.length c2', .slice A3 L3.length c3']]) (fun x => ?_) (fun nd13 => ?_)
    · skip
      revert x; intro b6
      try dsimp only
      refine D_two 6 16 (by decide) rfl rfl (E_litS (vs := []) (size := 3) (ds := []) rfl rfl rfl rfl rfl rfl (by simp) rfl (by omega)) (E_alloc1 rfl er_zero rfl) ?_ ?_ rfl rfl rfl rfl (by kernel_rfl)
      · rintro _ _ ⟨bl, rfl, rfl⟩
        refine Nx_same sub_st ?_
        have h := nd9 (bl, b6)
        try dsimp only at h
        exact D_at h (by repeat first | exact Sub.nil | refine Sub.cons rfl ?_) sub_st (by kernel_rfl)
      · rintro _ _ ⟨b7, rfl, rfl⟩
        refine Nx_same sub_st ?_
        have h := nd11 (b6, b7)
        try dsimp only at h
        exact D_at h (by repeat first | exact Sub.nil | refine Sub.cons rfl ?_) sub_st (by kernel_rfl)
    refine D_nodeR #[true, true, true, true, true, true, false, true, true, false, false, false, false, false, false, false, true, false, false] (fun x : Nat => [(7, .pointer (some ⟨x, 0, none⟩)), (28, .agg #[.slice A5 L1.length c5]), (30, .agg #[.slice A6 L2.length c6]), (32, .agg #[.slice A7 L3.length c7]), (35, .slice A4 C.length c4), (2, .pointer (some ⟨b2, 0, none⟩)), (3, .pointer (some ⟨b3, 0, none⟩))]) (fun x : Nat => [pt x 34 [zi 0], pt b5 26 [.slice A5 L1.length c5, .slice A6 L2.length c6, .slice A7 L3.length c7], row 70 2 A7 L3.length c7 (cellsL rwc L3), row 70 2 A6 L2.length c6 (cellsL rwc L2), row 70 2 A5 L1.length c5 (cellsL rwc L1), pt b3 29 [.slice A4 C.length c4], pt b2 26 [.slice A1 L1.length c1', .slice A2 L2.length c2', .slice A3 L3.length c3']]) (fun x => ?_) (fun nd14 => ?_)
    · skip
      revert x; intro b7
      try dsimp only
      refine D_two 6 15 (by decide) rfl rfl (E_litS (vs := []) (size := 3) (ds := []) rfl rfl rfl rfl rfl rfl (by simp) rfl (by omega)) (E_alloca rfl mp_alloc) ?_ ?_ rfl rfl rfl rfl (by kernel_rfl)
      · rintro _ _ ⟨bl, rfl, rfl⟩
        refine Nx_same sub_st ?_
        have h := nd10 (bl, b7)
        try dsimp only at h
        exact D_at h (by repeat first | exact Sub.nil | refine Sub.cons rfl ?_) sub_st (by kernel_rfl)
      · rintro _ _ ⟨b6, rfl, rfl⟩
        refine Nx_same sub_st ?_
        have h := nd11 (b6, b7)
        try dsimp only at h
        exact D_at h (by repeat first | exact Sub.nil | refine Sub.cons rfl ?_) sub_st (by kernel_rfl)
    refine D_nodeR #[true, true, true, true, true, true, false, true, true, false, false, false, false, false, false, false, false, false, false] (fun _ : Unit => [(28, .agg #[.slice A5 L1.length c5]), (30, .agg #[.slice A6 L2.length c6]), (32, .agg #[.slice A7 L3.length c7]), (35, .slice A4 C.length c4), (2, .pointer (some ⟨b2, 0, none⟩)), (3, .pointer (some ⟨b3, 0, none⟩))]) (fun _ : Unit => [pt b5 26 [.slice A5 L1.length c5, .slice A6 L2.length c6, .slice A7 L3.length c7], row 70 2 A7 L3.length c7 (cellsL rwc L3), row 70 2 A6 L2.length c6 (cellsL rwc L2), row 70 2 A5 L1.length c5 (cellsL rwc L1), pt b3 29 [.slice A4 C.length c4], pt b2 26 [.slice A1 L1.length c1', .slice A2 L2.length c2', .slice A3 L3.length c3']]) (fun x => ?_) (fun nd15 => ?_)
    · skip
      obtain ⟨⟩ := x
      try dsimp only
      refine D_three 6 15 16 rfl rfl rfl (E_litS (vs := []) (size := 3) (ds := []) rfl rfl rfl rfl rfl rfl (by simp) rfl (by omega)) (E_alloca rfl mp_alloc) (E_alloc1 rfl er_zero rfl) ?_ ?_ ?_ rfl rfl rfl rfl rfl rfl (by kernel_rfl)
      · rintro _ _ ⟨bl, rfl, rfl⟩
        refine Nx_same sub_st ?_
        have h := nd12 (bl)
        try dsimp only at h
        exact D_at h (by repeat first | exact Sub.nil | refine Sub.cons rfl ?_) sub_st (by kernel_rfl)
      · rintro _ _ ⟨b6, rfl, rfl⟩
        refine Nx_same sub_st ?_
        have h := nd13 (b6)
        try dsimp only at h
        exact D_at h (by repeat first | exact Sub.nil | refine Sub.cons rfl ?_) sub_st (by kernel_rfl)
      · rintro _ _ ⟨b7, rfl, rfl⟩
        refine Nx_same sub_st ?_
        have h := nd14 (b7)
        try dsimp only at h
        exact D_at h (by repeat first | exact Sub.nil | refine Sub.cons rfl ?_) sub_st (by kernel_rfl)
    have h := nd15 ()
    try dsimp only at h
    exact D_at h (by repeat first | exact Sub.nil | refine Sub.cons rfl ?_) sub_st (by kernel_rfl)
    obtain ⟨bl, A8, c8, A9, c9, b6, b7⟩ := x
    try dsimp only
    refine D_one 17 rfl (E_storew (ds := [.slice A9 R.length c9]) (cs := [.slice none 0 0]) rfl rfl rfl rfl (sl_one _ _ _) rfl) ?_ rfl rfl (by kernel_rfl)
    rintro _ _ rfl
    refine Nx_same sub_st ?_
    refine D_one 18 rfl (E_store1 rfl rfl rfl rfl rfl rfl (by first | (simp; done) | (simp; omega) | decide)) ?_ rfl rfl (by kernel_rfl)
    rintro _ _ rfl
    refine Nx_same sub_st ?_
    refine D_done ?_ (by kernel_rfl)
    skip
    refine hJ (b6, b7, A9, c9) _ _ trivial (Sub.cons rfl (Sub.cons rfl (Sub.cons rfl (Sub.cons rfl Sub.nil)))) fun w' hS => ?_
    simp only [Nat.add_zero, List.set_cons_zero] at hS
    exact sub_st w' hS
  obtain ⟨b6, b7, A9, c9⟩ := x
  dsimp only
  cases hr : rdy L1 L2 L3
  · have e1 : e = 150 := by rw [← he, mgE, hr]; rfl
    have e2 : R = [] := by rw [← hR, mgR, hr]; rfl
    focus (refine S_seq rfl ?_; refine S_region rfl rfl ?_; refine R_take (T_func rfl rfl) ?_ rfl rfl; refine R_p rfl ?_ rfl rfl; refine R_nil ?_; refine S_seq rfl ?_; refine S_block rfl ?_; refine S_seq rfl ?_; refine S_region rfl rfl ?_; refine R_take (T_loada (ds := [.slice A1 L1.length c1', .slice A2 L2.length c2', .slice A3 L3.length c3']) rfl rfl rfl rfl (fun j v h => by simpa using h)) ?_ rfl rfl; ((refine R_eff (E_hv0 (f := 15) ⟨_, Try.func15, rfl, by kernel_rfl⟩ (fun w hS => right3_any w A1 A2 A3 c1' c2' c3' L1 L2 L3 ((Srd.old h1 (fun k _ => noOwns k)).rd w hS) ((Srd.old h2 (fun k _ => noOwns k)).rd w hS) ((Srd.old h3 (fun k _ => noOwns k)).rd w hS) (by omega) (by omega) (by omega) hp1 hp2 hp3) rfl rfl (fun _ => rfl)) ?_ rfl rfl; rintro _ _ ⟨_, rfl, _, rfl⟩); rw [hr]); refine R_take (T_not rfl) ?_ rfl rfl; refine R_p rfl ?_ rfl rfl; refine R_nil ?_; refine S_true rfl rfl ?_; refine S_seq rfl ?_; refine S_region rfl rfl ?_; refine R_p rfl ?_ rfl rfl; (refine R_eff (E_cloA (cap := [.pointer (some ⟨b7, 0, none⟩), .pointer (some ⟨b6, 0, none⟩)]) rfl (E_hv0 (f := 14) ⟨_, Try.func14, rfl, by kernel_rfl⟩ (fun w hS => no1_any w 150 e b7 b6 A9 R.length c9 ((Srd.pt (g := b7) (n := 1) (ds := [zi e]) rfl (fun j u hj => by rw [Nat.zero_add]; exact hj)).rd w hS) ((Srd.pt (g := b6) (n := 1) (ds := [.slice A9 R.length c9]) rfl (fun j u hj => by rw [Nat.zero_add]; exact hj)).rd w hS) ⟨e1, by rw [e2]; rfl⟩) rfl rfl (fun _ => rfl))) ?_ rfl rfl; rintro _ _ ⟨_, rfl, _, rfl⟩); refine R_p rfl ?_ rfl rfl; refine R_nil ?_)
    exact hB _ _ _ _ _ rfl rfl fun w' hS => ⟨(), rfl, trivial, hS.sublist (List.nil_sublist _)⟩
  cases hrc : chkC C
  · have e1 : e = 151 := by rw [← he, mgE, hr, hrc]; rfl
    have e2 : R = [] := by rw [← hR, mgR, hr, hrc]; rfl
    focus (refine S_seq rfl ?_; refine S_region rfl rfl ?_; refine R_take (T_func rfl rfl) ?_ rfl rfl; refine R_p rfl ?_ rfl rfl; refine R_nil ?_; refine S_seq rfl ?_; refine S_block rfl ?_; refine S_seq rfl ?_; refine S_region rfl rfl ?_; refine R_take (T_loada (ds := [.slice A1 L1.length c1', .slice A2 L2.length c2', .slice A3 L3.length c3']) rfl rfl rfl rfl (fun j v h => by simpa using h)) ?_ rfl rfl; ((refine R_eff (E_hv0 (f := 15) ⟨_, Try.func15, rfl, by kernel_rfl⟩ (fun w hS => right3_any w A1 A2 A3 c1' c2' c3' L1 L2 L3 ((Srd.old h1 (fun k _ => noOwns k)).rd w hS) ((Srd.old h2 (fun k _ => noOwns k)).rd w hS) ((Srd.old h3 (fun k _ => noOwns k)).rd w hS) (by omega) (by omega) (by omega) hp1 hp2 hp3) rfl rfl (fun _ => rfl)) ?_ rfl rfl; rintro _ _ ⟨_, rfl, _, rfl⟩); rw [hr]); refine R_take (T_not rfl) ?_ rfl rfl; refine R_p rfl ?_ rfl rfl; refine R_nil ?_; refine S_false rfl rfl ?_; refine S_seq rfl ?_; refine S_region rfl rfl ?_; refine R_take (T_loads (ds := [.slice A4 C.length c4]) rfl rfl rfl rfl rfl) ?_ rfl rfl; (refine R_eff (E_rightCW (L := C) (r := false) (A := A4) (m := C.length) (c := c4) rfl (Srd.old h4 (fun k _ => noOwns k)) (by omega) hp4 hrc) ?_ rfl rfl; rintro _ _ ⟨rfl, rfl⟩); refine R_take (T_not rfl) ?_ rfl rfl; refine R_p rfl ?_ rfl rfl; refine R_nil ?_; refine S_true rfl rfl ?_; refine S_seq rfl ?_; refine S_region rfl rfl ?_; refine R_p rfl ?_ rfl rfl; (refine R_eff (E_cloA (cap := [.pointer (some ⟨b7, 0, none⟩), .pointer (some ⟨b6, 0, none⟩)]) rfl (E_hv0 (f := 14) ⟨_, Try.func14, rfl, by kernel_rfl⟩ (fun w hS => no1_any w 151 e b7 b6 A9 R.length c9 ((Srd.pt (g := b7) (n := 1) (ds := [zi e]) rfl (fun j u hj => by rw [Nat.zero_add]; exact hj)).rd w hS) ((Srd.pt (g := b6) (n := 1) (ds := [.slice A9 R.length c9]) rfl (fun j u hj => by rw [Nat.zero_add]; exact hj)).rd w hS) ⟨e1, by rw [e2]; rfl⟩) rfl rfl (fun _ => rfl))) ?_ rfl rfl; rintro _ _ ⟨_, rfl, _, rfl⟩); refine R_p rfl ?_ rfl rfl; refine R_nil ?_)
    exact hB _ _ _ _ _ rfl rfl fun w' hS => ⟨(), rfl, trivial, hS.sublist (List.nil_sublist _)⟩
  have hQl := cnfs_len L1 L2 L3
  have hQ := cnfs_R L1 L2 L3
  have hQl2 : (rcnfs L1 L2 L3).length ≤ L1.length + L2.length + L3.length := by rw [← hQ]; exact hQl
  focus (refine S_seq rfl ?_; refine S_region rfl rfl ?_; refine R_take (T_func rfl rfl) ?_ rfl rfl; refine R_p rfl ?_ rfl rfl; refine R_nil ?_; refine S_seq rfl ?_; refine S_block rfl ?_; refine S_seq rfl ?_; refine S_region rfl rfl ?_; refine R_take (T_loada (ds := [.slice A1 L1.length c1', .slice A2 L2.length c2', .slice A3 L3.length c3']) rfl rfl rfl rfl (fun j v h => by simpa using h)) ?_ rfl rfl; ((refine R_eff (E_hv0 (f := 15) ⟨_, Try.func15, rfl, by kernel_rfl⟩ (fun w hS => right3_any w A1 A2 A3 c1' c2' c3' L1 L2 L3 ((Srd.old h1 (fun k _ => noOwns k)).rd w hS) ((Srd.old h2 (fun k _ => noOwns k)).rd w hS) ((Srd.old h3 (fun k _ => noOwns k)).rd w hS) (by omega) (by omega) (by omega) hp1 hp2 hp3) rfl rfl (fun _ => rfl)) ?_ rfl rfl; rintro _ _ ⟨_, rfl, _, rfl⟩); rw [hr]); refine R_take (T_not rfl) ?_ rfl rfl; refine R_p rfl ?_ rfl rfl; refine R_nil ?_; refine S_false rfl rfl ?_; refine S_seq rfl ?_; refine S_region rfl rfl ?_; refine R_take (T_loads (ds := [.slice A4 C.length c4]) rfl rfl rfl rfl rfl) ?_ rfl rfl; (refine R_eff (E_rightCW (L := C) (r := true) (A := A4) (m := C.length) (c := c4) rfl (Srd.old h4 (fun k _ => noOwns k)) (by omega) hp4 hrc) ?_ rfl rfl; rintro _ _ ⟨rfl, rfl⟩); refine R_take (T_not rfl) ?_ rfl rfl; refine R_p rfl ?_ rfl rfl; refine R_nil ?_; refine S_false rfl rfl ?_; refine S_seq rfl ?_)
  cases hf : fitsB (rcnfs L1 L2 L3) C
  · have e1 : e = 170 := by rw [← he, mgE, hr, hrc, hQ, hf]; rfl
    have e2 : R = [] := by rw [← hR, mgR, hr, hrc, hQ, hf]; rfl
    refine S_draw ([pt b3 29 [.slice A4 C.length c4], pt b2 26 [.slice A1 L1.length c1', .slice A2 L2.length c2', .slice A3 L3.length c3']]) sub_st (by kernel_rfl) rfl (by kernel_rfl) (by kernel_rfl : _ = 11) ?_
    refine D_take 0 rfl (pev_ok rfl) ?_ rfl rfl (by kernel_rfl) (by kernel_rfl)
    refine D_take 1 rfl (T_loads (ds := [.slice A1 L1.length c1']) rfl rfl rfl rfl rfl) ?_ rfl rfl (by kernel_rfl) (by kernel_rfl)
    refine D_take 2 rfl (pev_ok rfl) ?_ rfl rfl (by kernel_rfl) (by kernel_rfl)
    refine D_take 3 rfl (T_loads (ds := [.slice A2 L2.length c2']) rfl rfl rfl rfl rfl) ?_ rfl rfl (by kernel_rfl) (by kernel_rfl)
    refine D_take 4 rfl (pev_ok rfl) ?_ rfl rfl (by kernel_rfl) (by kernel_rfl)
    refine D_take 5 rfl (T_loads (ds := [.slice A3 L3.length c3']) rfl rfl rfl rfl rfl) ?_ rfl rfl (by kernel_rfl) (by kernel_rfl)
    refine D_take 7 rfl (T_loads (ds := [.slice A4 C.length c4]) rfl rfl rfl rfl rfl) ?_ rfl rfl (by kernel_rfl) (by kernel_rfl)
    refine D_one 6 rfl (E_hv1 (f := 18) ⟨_, Try.func18, rfl, by kernel_rfl⟩ (fun w hS => rconflicts_any w A1 A2 A3 c1' c2' c3' L1 L2 L3 ((Srd.old h1 (fun k _ => noOwns k)).rd w hS) ((Srd.old h2 (fun k _ => noOwns k)).rd w hS) ((Srd.old h3 (fun k _ => noOwns k)).rd w hS) (by omega) (by omega) (by omega)) rfl rfl (fun _ => rfl)) ?_ rfl rfl (by kernel_rfl)
    rintro _ _ ⟨⟨A8, c8⟩, rfl, _, rfl⟩
    refine Nx_same sub_st ?_
    refine D_one 8 rfl (E_hv0 (f := 17) ⟨_, Try.func17, rfl, by kernel_rfl⟩ (fun w hS => rfits_any w A8 A4 c8 c4 (rcnfs L1 L2 L3) C ((Srd.row (A := A8) (n := (rcnfs L1 L2 L3).length) (c := c8)).rd w hS) ((Srd.old h4 (fun k _ => noOwns k)).rd w hS) (by omega) (by omega)) rfl rfl (fun _ => rfl)) ?_ rfl rfl (by kernel_rfl)
    rintro _ _ ⟨_, rfl, _, rfl⟩; rw [hf]
    refine Nx_same sub_st ?_
    refine D_take 9 rfl (T_not rfl) ?_ rfl rfl (by kernel_rfl) (by kernel_rfl)
    refine D_take 10 rfl (pev_ok rfl) ?_ rfl rfl (by kernel_rfl) (by kernel_rfl)
    refine D_done ?_ (by kernel_rfl)
    skip
    focus (refine S_true rfl rfl ?_; refine S_seq rfl ?_; refine S_region rfl rfl ?_; refine R_p rfl ?_ rfl rfl; (refine R_eff (E_cloA (cap := [.pointer (some ⟨b7, 0, none⟩), .pointer (some ⟨b6, 0, none⟩)]) rfl (E_hv0 (f := 14) ⟨_, Try.func14, rfl, by kernel_rfl⟩ (fun w hS => no1_any w 170 e b7 b6 A9 R.length c9 ((Srd.pt (g := b7) (n := 1) (ds := [zi e]) rfl (fun j u hj => by rw [Nat.zero_add]; exact hj)).rd w hS) ((Srd.pt (g := b6) (n := 1) (ds := [.slice A9 R.length c9]) rfl (fun j u hj => by rw [Nat.zero_add]; exact hj)).rd w hS) ⟨e1, by rw [e2]; rfl⟩) rfl rfl (fun _ => rfl))) ?_ rfl rfl; rintro _ _ ⟨_, rfl, _, rfl⟩); refine R_p rfl ?_ rfl rfl; refine R_nil ?_)
    exact hB _ _ _ _ _ rfl rfl fun w' hS => ⟨(), rfl, trivial, hS.sublist (List.nil_sublist _)⟩
  have hU := mgU_R (L1 := L1) (L2 := L2) (L3 := L3) (C := C) (by rw [hQ]; exact hf)
  refine S_draw ([pt b3 29 [.slice A4 C.length c4], pt b2 26 [.slice A1 L1.length c1', .slice A2 L2.length c2', .slice A3 L3.length c3']]) sub_st (by kernel_rfl) rfl (by kernel_rfl) (by kernel_rfl : _ = 11) ?_
  refine D_take 0 rfl (pev_ok rfl) ?_ rfl rfl (by kernel_rfl) (by kernel_rfl)
  refine D_take 1 rfl (T_loads (ds := [.slice A1 L1.length c1']) rfl rfl rfl rfl rfl) ?_ rfl rfl (by kernel_rfl) (by kernel_rfl)
  refine D_take 2 rfl (pev_ok rfl) ?_ rfl rfl (by kernel_rfl) (by kernel_rfl)
  refine D_take 3 rfl (T_loads (ds := [.slice A2 L2.length c2']) rfl rfl rfl rfl rfl) ?_ rfl rfl (by kernel_rfl) (by kernel_rfl)
  refine D_take 4 rfl (pev_ok rfl) ?_ rfl rfl (by kernel_rfl) (by kernel_rfl)
  refine D_take 5 rfl (T_loads (ds := [.slice A3 L3.length c3']) rfl rfl rfl rfl rfl) ?_ rfl rfl (by kernel_rfl) (by kernel_rfl)
  refine D_take 7 rfl (T_loads (ds := [.slice A4 C.length c4]) rfl rfl rfl rfl rfl) ?_ rfl rfl (by kernel_rfl) (by kernel_rfl)
  refine D_one 6 rfl (E_hv1 (f := 18) ⟨_, Try.func18, rfl, by kernel_rfl⟩ (fun w hS => rconflicts_any w A1 A2 A3 c1' c2' c3' L1 L2 L3 ((Srd.old h1 (fun k _ => noOwns k)).rd w hS) ((Srd.old h2 (fun k _ => noOwns k)).rd w hS) ((Srd.old h3 (fun k _ => noOwns k)).rd w hS) (by omega) (by omega) (by omega)) rfl rfl (fun _ => rfl)) ?_ rfl rfl (by kernel_rfl)
  rintro _ _ ⟨⟨A8, c8⟩, rfl, _, rfl⟩
  refine Nx_same sub_st ?_
  refine D_one 8 rfl (E_hv0 (f := 17) ⟨_, Try.func17, rfl, by kernel_rfl⟩ (fun w hS => rfits_any w A8 A4 c8 c4 (rcnfs L1 L2 L3) C ((Srd.row (A := A8) (n := (rcnfs L1 L2 L3).length) (c := c8)).rd w hS) ((Srd.old h4 (fun k _ => noOwns k)).rd w hS) (by omega) (by omega)) rfl rfl (fun _ => rfl)) ?_ rfl rfl (by kernel_rfl)
  rintro _ _ ⟨_, rfl, _, rfl⟩; rw [hf]
  refine Nx_same sub_st ?_
  refine D_take 9 rfl (T_not rfl) ?_ rfl rfl (by kernel_rfl) (by kernel_rfl)
  refine D_take 10 rfl (pev_ok rfl) ?_ rfl rfl (by kernel_rfl) (by kernel_rfl)
  refine D_done ?_ (by kernel_rfl)
  skip
  obtain ⟨U, hU2⟩ : ∃ U, mgU L1 L2 L3 C = U := ⟨_, rfl⟩
  have hUl : U.length ≤ L1.length + L2.length + L3.length := by
    rw [← hU2, mgU]
    exact Nat.le_trans (List.length_filterMap_le _ _) (allT_len L1 L2 L3)
  have hU : rmg L1 L2 L3 C = U := by rw [← hU, hU2]
  rcases Nat.lt_or_ge 32 U.length with hfl | hfl
  · have e1 : e = 6 := by rw [← he, mgE, hr, hrc, hQ, hf, if_pos rfl, if_pos rfl, if_pos rfl, if_neg (by rw [hU2]; omega)]
    have e2 : R = [] := by rw [← hR, mgR, hr, hrc, hQ, hf, if_pos rfl, if_pos rfl, if_pos rfl, if_neg (by rw [hU2]; omega)]
    focus (refine S_false rfl rfl ?_; refine S_skip rfl ?_; refine RS_blk ?_; refine S_seq rfl ?_; refine S_region rfl rfl ?_; refine R_p rfl ?_ rfl rfl; refine R_take (T_loads (ds := [.slice A1 L1.length c1']) rfl rfl rfl rfl rfl) ?_ rfl rfl; refine R_p rfl ?_ rfl rfl; refine R_take (T_loads (ds := [.slice A2 L2.length c2']) rfl rfl rfl rfl rfl) ?_ rfl rfl; refine R_p rfl ?_ rfl rfl; refine R_take (T_loads (ds := [.slice A3 L3.length c3']) rfl rfl rfl rfl rfl) ?_ rfl rfl; refine R_take (T_loads (ds := [.slice A4 C.length c4]) rfl rfl rfl rfl rfl) ?_ rfl rfl; ((refine R_eff (E_hv1 (f := 19) ⟨_, Try.func19, rfl, by kernel_rfl⟩ (fun w hS => rmerge_any w A1 A2 A3 c1' c2' c3' L1 L2 L3 ((Srd.old h1 (fun k _ => noOwns k)).rd w hS) ((Srd.old h2 (fun k _ => noOwns k)).rd w hS) ((Srd.old h3 (fun k _ => noOwns k)).rd w hS) (by omega) (by omega) (by omega) A4 c4 C ((Srd.old h4 (fun k _ => noOwns k)).rd w hS) (by omega)) rfl rfl (fun _ => rfl)) ?_ rfl rfl; rintro _ _ ⟨⟨A10, c10⟩, rfl, _, rfl⟩); rw [hU]); (refine R_eff (E_alloca rfl mp_alloc) ?_ rfl rfl; rintro _ _ ⟨b3, rfl, rfl⟩); (refine R_eff0 (E_storew (ds := [.slice A10 U.length c10]) (cs := [.slice none 0 0]) rfl rfl rfl rfl (sl_one _ _ _) rfl) ?_ rfl; rintro _ _ rfl); refine R_nil ?_; refine S_seq rfl ?_; refine S_seq rfl ?_; refine S_region rfl rfl ?_; refine R_p rfl ?_ rfl rfl; refine R_take (T_load rfl rfl rfl (by first | rfl | assumption)) ?_ rfl rfl; refine R_p rfl ?_ rfl rfl; refine R_take (T_decT rfl (by omega)) ?_ rfl rfl; refine R_nil ?_; refine S_true rfl rfl ?_; refine S_seq rfl ?_; refine S_region rfl rfl ?_; refine R_p rfl ?_ rfl rfl; (refine R_eff (E_cloA (cap := [.pointer (some ⟨b7, 0, none⟩), .pointer (some ⟨b6, 0, none⟩)]) rfl (E_hv0 (f := 14) ⟨_, Try.func14, rfl, by kernel_rfl⟩ (fun w hS => no1_any w 6 e b7 b6 A9 R.length c9 ((Srd.pt (g := b7) (n := 1) (ds := [zi e]) rfl (fun j u hj => by rw [Nat.zero_add]; exact hj)).rd w hS) ((Srd.pt (g := b6) (n := 1) (ds := [.slice A9 R.length c9]) rfl (fun j u hj => by rw [Nat.zero_add]; exact hj)).rd w hS) ⟨e1, by rw [e2]; rfl⟩) rfl rfl (fun _ => rfl))) ?_ rfl rfl; rintro _ _ ⟨_, rfl, _, rfl⟩); refine R_take (T_decT rfl (by omega)) ?_ rfl rfl; refine R_nil ?_)
    exact hB _ _ _ _ _ rfl rfl fun w' hS => ⟨(), rfl, trivial, hS.sublist (List.nil_sublist _)⟩
  · have e1 : e = 0 := by rw [← he, mgE, hr, hrc, hQ, hf, if_pos rfl, if_pos rfl, if_pos rfl, if_pos (by rw [hU2]; omega)]
    have e2 : R = U := by rw [← hR, mgR, hr, hrc, hQ, hf, if_pos rfl, if_pos rfl, if_pos rfl, if_pos (by rw [hU2]; omega), hU2]
    have hd : decide (U = U) = true := decide_eq_true rfl
    rw [e1, e2]
    focus (refine S_false rfl rfl ?_; refine S_skip rfl ?_; refine RS_blk ?_; refine S_seq rfl ?_; refine S_region rfl rfl ?_; refine R_p rfl ?_ rfl rfl; refine R_take (T_loads (ds := [.slice A1 L1.length c1']) rfl rfl rfl rfl rfl) ?_ rfl rfl; refine R_p rfl ?_ rfl rfl; refine R_take (T_loads (ds := [.slice A2 L2.length c2']) rfl rfl rfl rfl rfl) ?_ rfl rfl; refine R_p rfl ?_ rfl rfl; refine R_take (T_loads (ds := [.slice A3 L3.length c3']) rfl rfl rfl rfl rfl) ?_ rfl rfl; refine R_take (T_loads (ds := [.slice A4 C.length c4]) rfl rfl rfl rfl rfl) ?_ rfl rfl; ((refine R_eff (E_hv1 (f := 19) ⟨_, Try.func19, rfl, by kernel_rfl⟩ (fun w hS => rmerge_any w A1 A2 A3 c1' c2' c3' L1 L2 L3 ((Srd.old h1 (fun k _ => noOwns k)).rd w hS) ((Srd.old h2 (fun k _ => noOwns k)).rd w hS) ((Srd.old h3 (fun k _ => noOwns k)).rd w hS) (by omega) (by omega) (by omega) A4 c4 C ((Srd.old h4 (fun k _ => noOwns k)).rd w hS) (by omega)) rfl rfl (fun _ => rfl)) ?_ rfl rfl; rintro _ _ ⟨⟨A10, c10⟩, rfl, _, rfl⟩); rw [hU]); (refine R_eff (E_alloca rfl mp_alloc) ?_ rfl rfl; rintro _ _ ⟨b3, rfl, rfl⟩); (refine R_eff0 (E_storew (ds := [.slice A10 U.length c10]) (cs := [.slice none 0 0]) rfl rfl rfl rfl (sl_one _ _ _) rfl) ?_ rfl; rintro _ _ rfl); refine R_nil ?_; refine S_seq rfl ?_; refine S_seq rfl ?_; refine S_region rfl rfl ?_; refine R_p rfl ?_ rfl rfl; refine R_take (T_load rfl rfl rfl rfl) ?_ rfl rfl; refine R_p rfl ?_ rfl rfl; refine R_take (T_decF rfl (by omega)) ?_ rfl rfl; refine R_nil ?_; refine S_false rfl rfl ?_; refine S_skip rfl ?_; refine S_seq rfl ?_; refine S_region rfl rfl ?_; refine R_take (T_load rfl rfl rfl rfl) ?_ rfl rfl; refine R_take (T_decT rfl rfl) ?_ rfl rfl; refine R_p rfl ?_ rfl rfl; refine R_take (T_loads (ds := [.slice A9 U.length c9]) rfl rfl rfl rfl rfl) ?_ rfl rfl; refine R_take (T_loads (ds := [.slice A10 U.length c10]) rfl rfl rfl rfl rfl) ?_ rfl rfl; ((refine R_eff (E_hv0 (f := 20) ⟨_, Try.func20, rfl, by kernel_rfl⟩ (fun w hS => rSame_any w A9 A10 U.length c9 U.length c10 U U ((Srd.row (A := A9) (n := U.length) (c := c9)).rd w hS) ((Srd.row (A := A10) (n := U.length) (c := c10)).rd w hS) (by omega) (by omega)) rfl rfl (fun _ => rfl)) ?_ rfl rfl; rintro _ _ ⟨_, rfl, _, rfl⟩); rw [hd]); refine R_p rfl ?_ rfl rfl; refine R_p rfl ?_ rfl rfl; refine R_nil ?_)
    exact hB _ _ _ _ _ rfl rfl fun w' hS => ⟨(), rfl, trivial, hS.sublist (List.nil_sublist _)⟩
set_option maxRecDepth 100000 in
theorem MergeMerges_open {H : Type} {enc : TypeId × Value → H} (W : World) {r : Reach} (base : Nat) (v0 v1 : Value) {d0 d1 : DataW H} {p0 p1 : List MemPlace}
    (hv0 : Value.okWide Try.prog W r base 26 v0) (hv1 : Value.okWide Try.prog W r base 29 v1)
    (h0 : DataW.Trod enc Try.prog W 0 (fun _ => true) true 26 v0 d0 p0) (h1 : DataW.Trod enc Try.prog W 0 (fun _ => true) true 29 v1 d1 p1) :
    Calls Try.prog 3 #[v0, v1] W fun e w' => e = .returned (.bool true) ∧ Kp All W w' := by
  obtain ⟨A1, c1', L1, A2, c2', L2, A3, c3', L3, rfl, g1, g2, g3⟩ := open_three hv0 h0
  obtain ⟨A4, n4, c4, C, rfl, _, _, g4⟩ := open_edit hv1 h1
  have hl2 : C.length = n4 := by have := g4.1; rw [cellsL_len chc_len] at this; omega
  subst hl2
  exact (merges_any W A1 c1' L1 g1 A2 c2' L2 g2 A3 c3' L3 g3 A4 c4 C g4).pure7
end Go.Proofs.Ytghfjfgpiomdhaa
