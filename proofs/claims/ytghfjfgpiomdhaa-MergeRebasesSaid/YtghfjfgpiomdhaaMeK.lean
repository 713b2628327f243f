/- The statement MergeRebases. -/
import Derived.Test.YtghfjfgpiomdhaaMeH
namespace Go.Proofs.Ytghfjfgpiomdhaa
open Go.RowKit Go.ChangeShapes Go.WideShapes Go.ChangeAt
open Asn (pt row rb)
set_option linter.unusedVariables false
set_option linter.unusedSimpArgs false
--@use N

theorem rbR_len (L1 L2 : List Rw) (C : List Ch) : (rbR L1 L2 C).length ≤ 32 := by
  unfold rbR
  split
  · exact mgR_len _ _ _ _
  · simp
theorem three_built2 (A A2 : Option Addr) (n c n2 c2 : Nat) : Try.prog.built 26 [(0, .agg #[.slice A n c]), (1, .agg #[.slice A2 n2 c2])] = some [Value.slice A n c, Value.slice A2 n2 c2, Value.slice none 0 0].toArray := by kernel_rfl
/-- what an edit done to another map comes to, by what it makes of its own -/
theorem rb_cases {L1 L2 : List Rw} {C : List Ch} {S U : List Rw} (h1 : chkR L1 = true) (hC : chkC C = true) (hS : resA L1 C = S) (hU : rmg L1 L2 S [] = U) :
    (32 < S.length → rbE L1 L2 C = 6 ∧ rbR L1 L2 C = []) ∧ (S.length ≤ 32 → (chkR L2 = false → rbE L1 L2 C = 150 ∧ rbR L1 L2 C = []) ∧ (chkR L2 = true →
      (rcnfs L1 L2 S ≠ [] → rbE L1 L2 C = 170 ∧ rbR L1 L2 C = []) ∧ (rcnfs L1 L2 S = [] → (32 < U.length → rbE L1 L2 C = 6 ∧ rbR L1 L2 C = []) ∧ (U.length ≤ 32 → rbE L1 L2 C = 0 ∧ rbR L1 L2 C = U)))) := by
  have hu := app_res (chkR_srt h1).2.1 (chkC_srt hC).2.1
  rw [hS] at hu
  refine ⟨fun h => ?_, fun h => ?_⟩
  · have e1 : appE L1 C = 6 := by rw [appE, h1, hC, hu, if_pos rfl, if_pos rfl, if_neg (by omega)]
    unfold rbE rbR
    rw [e1]
    exact ⟨rfl, rfl⟩
  have e1 : appE L1 C = 0 := by rw [appE, h1, hC, hu, if_pos rfl, if_pos rfl, if_pos h]
  have e2 : appR L1 C = S := by rw [appR, h1, hC, hu, if_pos rfl, if_pos rfl, if_pos h]
  have e3 : chkR S = true := by rw [← hu]; exact app_chk h1 hC (by rw [hu]; exact h)
  have er : rdy L1 L2 S = chkR L2 := by rw [rdy, h1, e3]; simp
  unfold rbE rbR
  rw [e1, e2, if_pos rfl, if_pos rfl]
  refine ⟨fun h2 => ?_, fun h2 => ⟨fun h3 => ?_, fun h3 => ?_⟩⟩
  · unfold mgE mgR
    rw [er, h2]
    exact ⟨rfl, rfl⟩
  · have hf : fitsB (cnfs L1 L2 S) [] = false := by rw [fitsB_nil, cnfs_R]; exact decide_eq_false h3
    unfold mgE mgR
    rw [er, h2, chkC_nil, hf]
    exact ⟨rfl, rfl⟩
  · have hf : fitsB (cnfs L1 L2 S) [] = true := by rw [fitsB_nil, cnfs_R]; exact decide_eq_true h3
    unfold mgE mgR
    rw [er, h2, chkC_nil, hf, mgU_R hf, hU, if_pos rfl, if_pos rfl, if_pos rfl, if_pos rfl, if_pos rfl, if_pos rfl]
    exact ⟨fun h4 => ⟨if_neg (by omega), if_neg (by omega)⟩, fun h4 => ⟨if_pos h4, if_pos h4⟩⟩
set_option maxRecDepth 100000 in
set_option maxHeartbeats 4000000 in
theorem rebases_any (w : World) (A1 : Option Addr) (c1' : Nat) (L1 : List Rw) (h1 : Rd w All 2 A1 L1.length (cellsL rwc L1)) (A2 : Option Addr) (c2' : Nat) (L2 : List Rw) (h2 : Rd w All 2 A2 L2.length (cellsL rwc L2)) (A4 : Option Addr) (c4 : Nat) (C : List Ch) (h4 : Rd w All 3 A4 C.length (cellsL chc C)) :
    Gives Try.prog 7 [.agg #[.slice A1 L1.length c1'], .agg #[.slice A2 L2.length c2'], .agg #[.slice A4 C.length c4]] [] w (X := Unit) (fun _ => .bool true) (fun _ => True) (fun _ => []) := by
  refine gives_S Try.func7 rfl Try.ntmps7 Try.results7 (by simp) (St.enter w) (fun B hB => ?_)
  focus (refine S_seq rfl ?_; refine S_region rfl rfl ?_; (refine R_eff (E_boxa (cs := [.slice A1 L1.length c1']) rfl) ?_ rfl rfl; rintro _ _ ⟨b3, rfl, rfl⟩); (refine R_eff (E_boxa (cs := [.slice A2 L2.length c2']) rfl) ?_ rfl rfl; rintro _ _ ⟨b4, rfl, rfl⟩); (refine R_eff (E_boxa (cs := [.slice A4 C.length c4]) rfl) ?_ rfl rfl; rintro _ _ ⟨b5, rfl, rfl⟩); refine R_p rfl ?_ rfl rfl; refine R_nil ?_; refine S_seq rfl ?_; refine S_seq rfl ?_; refine S_region rfl rfl ?_; (refine R_eff (E_hv0 (f := 9) ⟨_, Try.func9, rfl, by kernel_rfl⟩ (fun w hS => wakes7_any w) rfl rfl (fun _ => rfl)) ?_ rfl rfl; rintro _ _ ⟨_, rfl, _, rfl⟩); refine R_take (T_not rfl) ?_ rfl rfl; refine R_nil ?_; refine S_false rfl rfl ?_; refine S_skip rfl ?_; refine S_seq rfl ?_; refine S_seq rfl ?_; refine S_region rfl rfl ?_; refine R_take (T_loads (ds := [.slice A1 L1.length c1']) rfl rfl rfl rfl rfl) ?_ rfl rfl; refine R_take (T_loads (ds := [.slice A2 L2.length c2']) rfl rfl rfl rfl rfl) ?_ rfl rfl; (refine R_eff (E_litS (vs := [.agg #[.slice A1 L1.length c1'], .agg #[.slice A2 L2.length c2']]) (size := 1) (ds := [.slice A1 L1.length c1', .slice A2 L2.length c2']) rfl rfl rfl rfl rfl rfl (by simp [vcells]) rfl (by omega)) ?_ rfl rfl; rintro _ _ ⟨bl, rfl, rfl⟩); ((refine R_eff (E_hv0 (f := 10) ⟨_, Try.func10, rfl, by kernel_rfl⟩ (fun w hS => large7_any w (some ⟨bl, 0, none⟩) 2 [(A1, c1', L1), (A2, c2', L2)] ((Srd.pt (g := bl) (n := 2) (ds := [.slice A1 L1.length c1', .slice A2 L2.length c2']) rfl (fun j u hj => by rw [Nat.zero_add]; exact hj)).rd w hS) (by simp) (rd_list2 ((Srd.old h1 (fun k _ => noOwns k)).rd w hS) ((Srd.old h2 (fun k _ => noOwns k)).rd w hS))) rfl rfl (fun _ => rfl)) ?_ rfl rfl; rintro _ _ ⟨bg, rfl, hbg, rfl⟩); cases bg); refine R_p rfl ?_ rfl rfl; refine R_take (T_loads (ds := [.slice A4 C.length c4]) rfl rfl rfl rfl rfl) ?_ rfl rfl; ((refine R_eff (E_hv0 (f := 11) ⟨_, Try.func11, rfl, by kernel_rfl⟩ (fun w hS => largeE_any w A4 c4 C ((Srd.old h4 (fun k _ => noOwns k)).rd w hS)) rfl rfl (fun _ => rfl)) ?_ rfl rfl; rintro _ _ ⟨bh, rfl, hbh, rfl⟩); cases bh); refine R_p rfl ?_ rfl rfl; refine R_nil ?_; refine S_false rfl rfl ?_; refine S_skip rfl ?_; refine S_seq rfl ?_; refine S_region rfl rfl ?_; refine R_take (T_loads (ds := [.slice A1 L1.length c1']) rfl rfl rfl rfl rfl) ?_ rfl rfl; refine R_take (T_loads (ds := [.slice A2 L2.length c2']) rfl rfl rfl rfl rfl) ?_ rfl rfl; rotate_left; refine R_p rfl ?_ rfl rfl; refine R_nil ?_; refine S_true rfl rfl ?_; refine S_seq rfl ?_; refine S_region rfl rfl ?_; refine R_p rfl ?_ rfl rfl; refine R_nil ?_; rotate_left; refine R_p rfl ?_ rfl rfl; refine R_skip ?_ rfl rfl; refine R_skip ?_ rfl rfl; refine R_p rfl ?_ rfl rfl; refine R_nil ?_; refine S_true rfl rfl ?_; refine S_seq rfl ?_; refine S_region rfl rfl ?_; refine R_p rfl ?_ rfl rfl; refine R_nil ?_; rotate_left)
  rotate_left
  iterate 2 (first | (· exact hB _ _ _ _ _ rfl rfl fun w' hS => ⟨(), rfl, trivial, hS.sublist (List.nil_sublist _)⟩) | skip)
  have s1 := hbg rfl (A1, c1', L1) (by simp)
  have s1 : smallR L1 := s1
  have hp1 := smallR_pth s1
  have hn1 := s1.1
  have s2 := hbg rfl (A2, c2', L2) (by simp)
  have s2 : smallR L2 := s2
  have hp2 := smallR_pth s2
  have hn2 := s2.1

  have s4 := hbh rfl
  have hp4 := smallC_pth s4
  have hn4 := s4.1
  have hRl := rbR_len L1 L2 C
  obtain ⟨R, hR⟩ : ∃ R, rbR L1 L2 C = R := ⟨_, rfl⟩
  obtain ⟨e, he⟩ : ∃ e, rbE L1 L2 C = e := ⟨_, rfl⟩
  rw [hR] at hRl
  focus (refine R_take (T_build2 rfl rfl (three_built2 _ _ _ _ _ _)) ?_ rfl rfl; (refine R_eff (E_gv ⟨_, Try.func12, rfl, by kernel_rfl⟩ rfl (fun w hS => copied7_any w A1 A2 none c1' c2' 0 L1 L2 [] ((Srd.old h1 (fun k _ => noOwns k)).rd w hS) ((Srd.old h2 (fun k _ => noOwns k)).rd w hS) Rd.none_ (by omega) (by omega) (by simp))) ?_ rfl rfl; rintro _ _ ⟨⟨⟨A5, c5⟩, ⟨A6, c6⟩, ⟨A7, c7⟩⟩, rfl, _, rfl⟩; dsimp only [List.cons_append, List.nil_append]); (refine R_eff (E_alloca rfl three_zero) ?_ rfl rfl; rintro _ _ ⟨b7, rfl, rfl⟩); (refine R_eff0 (E_storew (cs := [.slice none 0 0, .slice none 0 0, .slice none 0 0]) (ds := [.slice A5 L1.length c5, .slice A6 L2.length c6, .slice A7 0 c7]) rfl rfl rfl rfl (by simp [Value.oneCell']) rfl) ?_ rfl; rintro _ _ rfl); refine R_nil ?_; refine S_seq rfl ?_)
  refine S_cut (X := Nat × Nat × Option Addr × Nat) (fun x => [(3, .pointer (some ⟨b3, 0, none⟩)), (4, .pointer (some ⟨b4, 0, none⟩)), (5, .pointer (some ⟨b5, 0, none⟩)), (8, .pointer (some ⟨x.1, 0, none⟩)), (9, .pointer (some ⟨x.2.1, 0, none⟩))]) (fun x => [pt x.2.1 34 [zi e], pt x.1 24 [.slice x.2.2.1 R.length x.2.2.2], row 70 2 x.2.2.1 R.length x.2.2.2 (cellsL rwc R), pt b5 29 [.slice A4 C.length c4], pt b4 24 [.slice A2 L2.length c2'], pt b3 24 [.slice A1 L1.length c1']]) (fun _ => True) (fun J hJ => ?_) (fun x _ => ?_)
  · skip
    refine S_draw ([pt b7 26 [.slice A5 L1.length c5, .slice A6 L2.length c6, .slice A7 0 c7], pt b5 29 [.slice A4 C.length c4], pt b4 24 [.slice A2 L2.length c2'], pt b3 24 [.slice A1 L1.length c1']]) sub_st (by kernel_rfl) rfl (by kernel_rfl) (by kernel_rfl : _ = 17) ?_
    refine D_take 0 rfl (pev_ok rfl) ?_ rfl rfl (by kernel_rfl) (by kernel_rfl)
    refine D_take 1 rfl (T_loads (ds := [.slice A5 L1.length c5]) rfl rfl rfl rfl rfl) ?_ rfl rfl (by kernel_rfl) (by kernel_rfl)
    refine D_take 2 rfl (pev_ok rfl) ?_ rfl rfl (by kernel_rfl) (by kernel_rfl)
    refine D_take 3 rfl (T_loads (ds := [.slice A6 L2.length c6]) rfl rfl rfl rfl rfl) ?_ rfl rfl (by kernel_rfl) (by kernel_rfl)
    refine D_take 5 rfl (pev_ok rfl) ?_ rfl rfl (by kernel_rfl) (by kernel_rfl)
    refine D_take 6 rfl (T_load rfl rfl rfl (by first | rfl | assumption)) ?_ rfl rfl (by kernel_rfl) (by kernel_rfl)
    refine D_node #[true, true, true, true, true, true, true, true, true, true, true, true, true, true, true, false, false] (fun x : Nat × Option Addr × Nat × Option Addr × Nat × Nat × Nat => [(39, zi e), (38, .agg #[.slice x.2.2.2.1 R.length x.2.2.2.2.1]), (36, .agg #[.slice x.2.1 C.length x.2.2.1]), (9, .pointer (some ⟨x.2.2.2.2.2.2, 0, none⟩)), (8, .pointer (some ⟨x.2.2.2.2.2.1, 0, none⟩)), (37, .tuple #[.agg #[.slice x.2.2.2.1 R.length x.2.2.2.2.1], zi e]), (35, .slice x.2.1 C.length x.2.2.1), (32, .slice (some ⟨x.1, 0, none⟩) 0 0), (29, .agg #[.slice A5 L1.length c5]), (31, .agg #[.slice A6 L2.length c6]), (34, .slice A4 C.length c4), (3, .pointer (some ⟨b3, 0, none⟩)), (4, .pointer (some ⟨b4, 0, none⟩)), (5, .pointer (some ⟨b5, 0, none⟩))]) (fun x : Nat × Option Addr × Nat × Option Addr × Nat × Nat × Nat => [pt x.2.2.2.2.2.2 34 [zi 0], pt x.2.2.2.2.2.1 24 [.slice none 0 0], row 70 2 x.2.2.2.1 R.length x.2.2.2.2.1 (cellsL rwc R), row 73 3 x.2.1 C.length x.2.2.1 (cellsL chc C), pt b7 26 [.slice A5 L1.length c5, .slice A6 L2.length c6, .slice A7 0 c7], row 70 2 A6 L2.length c6 (cellsL rwc L2), row 70 2 A5 L1.length c5 (cellsL rwc L1), pt b5 29 [.slice A4 C.length c4], pt b4 24 [.slice A2 L2.length c2'], pt b3 24 [.slice A1 L1.length c1']]) (fun nd0 => ?_) (fun x => ?_)
    refine D_nodeR #[true, true, true, true, true, true, true, true, true, true, true, true, true, true, false, false, false] (fun x : Nat × Option Addr × Nat × Option Addr × Nat × Nat => [(39, zi e), (38, .agg #[.slice x.2.2.2.1 R.length x.2.2.2.2.1]), (36, .agg #[.slice x.2.1 C.length x.2.2.1]), (8, .pointer (some ⟨x.2.2.2.2.2, 0, none⟩)), (37, .tuple #[.agg #[.slice x.2.2.2.1 R.length x.2.2.2.2.1], zi e]), (35, .slice x.2.1 C.length x.2.2.1), (32, .slice (some ⟨x.1, 0, none⟩) 0 0), (29, .agg #[.slice A5 L1.length c5]), (31, .agg #[.slice A6 L2.length c6]), (34, .slice A4 C.length c4), (3, .pointer (some ⟨b3, 0, none⟩)), (4, .pointer (some ⟨b4, 0, none⟩)), (5, .pointer (some ⟨b5, 0, none⟩))]) (fun x : Nat × Option Addr × Nat × Option Addr × Nat × Nat => [pt x.2.2.2.2.2 24 [.slice none 0 0], row 70 2 x.2.2.2.1 R.length x.2.2.2.2.1 (cellsL rwc R), row 73 3 x.2.1 C.length x.2.2.1 (cellsL chc C), pt b7 26 [.slice A5 L1.length c5, .slice A6 L2.length c6, .slice A7 0 c7], row 70 2 A6 L2.length c6 (cellsL rwc L2), row 70 2 A5 L1.length c5 (cellsL rwc L1), pt b5 29 [.slice A4 C.length c4], pt b4 24 [.slice A2 L2.length c2'], pt b3 24 [.slice A1 L1.length c1']]) (fun x => ?_) (fun nd1 => ?_)
    · skip
      obtain ⟨bl, A8, c8, A9, c9, b8⟩ := x
      try dsimp only
      refine D_one 14 rfl (E_alloc1 rfl er_zero rfl) ?_ rfl rfl (by kernel_rfl)
      rintro _ _ ⟨b9, rfl, rfl⟩
      refine Nx_same sub_st ?_
      have h := nd0 (bl, A8, c8, A9, c9, b8, b9)
      try dsimp only at h
      exact D_at h (by repeat first | exact Sub.nil | refine Sub.cons rfl ?_) sub_st (by kernel_rfl)
    refine D_nodeR #[true, true, true, true, true, true, true, true, true, true, true, true, true, false, true, false, false] (fun x : Nat × Option Addr × Nat × Option Addr × Nat × Nat => [(39, zi e), (38, .agg #[.slice x.2.2.2.1 R.length x.2.2.2.2.1]), (36, .agg #[.slice x.2.1 C.length x.2.2.1]), (9, .pointer (some ⟨x.2.2.2.2.2, 0, none⟩)), (37, .tuple #[.agg #[.slice x.2.2.2.1 R.length x.2.2.2.2.1], zi e]), (35, .slice x.2.1 C.length x.2.2.1), (32, .slice (some ⟨x.1, 0, none⟩) 0 0), (29, .agg #[.slice A5 L1.length c5]), (31, .agg #[.slice A6 L2.length c6]), (34, .slice A4 C.length c4), (3, .pointer (some ⟨b3, 0, none⟩)), (4, .pointer (some ⟨b4, 0, none⟩)), (5, .pointer (some ⟨b5, 0, none⟩))]) (fun x : Nat × Option Addr × Nat × Option Addr × Nat × Nat => [pt x.2.2.2.2.2 34 [zi 0], row 70 2 x.2.2.2.1 R.length x.2.2.2.2.1 (cellsL rwc R), row 73 3 x.2.1 C.length x.2.2.1 (cellsL chc C), pt b7 26 [.slice A5 L1.length c5, .slice A6 L2.length c6, .slice A7 0 c7], row 70 2 A6 L2.length c6 (cellsL rwc L2), row 70 2 A5 L1.length c5 (cellsL rwc L1), pt b5 29 [.slice A4 C.length c4], pt b4 24 [.slice A2 L2.length c2'], pt b3 24 [.slice A1 L1.length c1']]) (fun x => ?_) (fun nd2 => ?_)
    · skip
      obtain ⟨bl, A8, c8, A9, c9, b9⟩ := x
      try dsimp only
      refine D_one 13 rfl (E_alloca rfl mp_alloc) ?_ rfl rfl (by kernel_rfl)
      rintro _ _ ⟨b8, rfl, rfl⟩
      refine Nx_same sub_st ?_
      have h := nd0 (bl, A8, c8, A9, c9, b8, b9)
      try dsimp only at h
      exact D_at h (by repeat first | exact Sub.nil | refine Sub.cons rfl ?_) sub_st (by kernel_rfl)
    refine D_nodeR #[true, true, true, true, true, true, true, true, true, true, true, true, true, false, false, false, false] (fun x : Nat × Option Addr × Nat × Option Addr × Nat => [(39, zi e), (38, .agg #[.slice x.2.2.2.1 R.length x.2.2.2.2]), (36, .agg #[.slice x.2.1 C.length x.2.2.1]), (37, .tuple #[.agg #[.slice x.2.2.2.1 R.length x.2.2.2.2], zi e]), (35, .slice x.2.1 C.length x.2.2.1), (32, .slice (some ⟨x.1, 0, none⟩) 0 0), (29, .agg #[.slice A5 L1.length c5]), (31, .agg #[.slice A6 L2.length c6]), (34, .slice A4 C.length c4), (3, .pointer (some ⟨b3, 0, none⟩)), (4, .pointer (some ⟨b4, 0, none⟩)), (5, .pointer (some ⟨b5, 0, none⟩))]) (fun x : Nat × Option Addr × Nat × Option Addr × Nat => [row 70 2 x.2.2.2.1 R.length x.2.2.2.2 (cellsL rwc R), row 73 3 x.2.1 C.length x.2.2.1 (cellsL chc C), pt b7 26 [.slice A5 L1.length c5, .slice A6 L2.length c6, .slice A7 0 c7], row 70 2 A6 L2.length c6 (cellsL rwc L2), row 70 2 A5 L1.length c5 (cellsL rwc L1), pt b5 29 [.slice A4 C.length c4], pt b4 24 [.slice A2 L2.length c2'], pt b3 24 [.slice A1 L1.length c1']]) (fun x => ?_) (fun nd3 => ?_)
    · skip
      obtain ⟨bl, A8, c8, A9, c9⟩ := x
      try dsimp only
      refine D_two 13 14 (by decide) rfl rfl (E_alloca rfl mp_alloc) (E_alloc1 rfl er_zero rfl) ?_ ?_ rfl rfl rfl rfl (by kernel_rfl)
      · rintro _ _ ⟨b8, rfl, rfl⟩
        refine Nx_same sub_st ?_
        have h := nd1 (bl, A8, c8, A9, c9, b8)
        try dsimp only at h
        exact D_at h (by repeat first | exact Sub.nil | refine Sub.cons rfl ?_) sub_st (by kernel_rfl)
      · rintro _ _ ⟨b9, rfl, rfl⟩
        refine Nx_same sub_st ?_
        have h := nd2 (bl, A8, c8, A9, c9, b9)
        try dsimp only at h
        exact D_at h (by repeat first | exact Sub.nil | refine Sub.cons rfl ?_) sub_st (by kernel_rfl)
    refine D_nodeR #[true, true, true, true, true, true, true, true, true, false, false, false, false, true, true, false, false] (fun x : Nat × Option Addr × Nat × Nat × Nat => [(36, .agg #[.slice x.2.1 C.length x.2.2.1]), (9, .pointer (some ⟨x.2.2.2.2, 0, none⟩)), (8, .pointer (some ⟨x.2.2.2.1, 0, none⟩)), (35, .slice x.2.1 C.length x.2.2.1), (32, .slice (some ⟨x.1, 0, none⟩) 0 0), (29, .agg #[.slice A5 L1.length c5]), (31, .agg #[.slice A6 L2.length c6]), (34, .slice A4 C.length c4), (3, .pointer (some ⟨b3, 0, none⟩)), (4, .pointer (some ⟨b4, 0, none⟩)), (5, .pointer (some ⟨b5, 0, none⟩))]) (fun x : Nat × Option Addr × Nat × Nat × Nat => [pt x.2.2.2.2 34 [zi 0], pt x.2.2.2.1 24 [.slice none 0 0], row 73 3 x.2.1 C.length x.2.2.1 (cellsL chc C), pt b7 26 [.slice A5 L1.length c5, .slice A6 L2.length c6, .slice A7 0 c7], row 70 2 A6 L2.length c6 (cellsL rwc L2), row 70 2 A5 L1.length c5 (cellsL rwc L1), pt b5 29 [.slice A4 C.length c4], pt b4 24 [.slice A2 L2.length c2'], pt b3 24 [.slice A1 L1.length c1']]) (fun x => ?_) (fun nd4 => ?_)
    · skip
      obtain ⟨bl, A8, c8, b8, b9⟩ := x
      try dsimp only
      refine D_one 9 rfl (E_hv1 (f := 30) ⟨_, Try.func30, rfl, by kernel_rfl⟩ (fun w hS => rebase_any w A5 A6 A8 c5 c6 c8 L1 L2 C ((Srd.row (A := A5) (n := L1.length) (c := c5)).rd w hS) ((Srd.row (A := A6) (n := L2.length) (c := c6)).rd w hS) ((Srd.row (A := A8) (n := C.length) (c := c8)).rd w hS) (by omega) (by omega) (by omega) hp1 hp2 hp4) rfl rfl (fun _ => rfl)) ?_ rfl rfl (by kernel_rfl)
      rintro _ _ ⟨⟨A9, c9⟩, rfl, _, rfl⟩; rw [hR, he]
      refine Nx_same sub_st ?_
      refine D_take 10 rfl (pev_ok rfl) ?_ rfl rfl (by kernel_rfl) (by kernel_rfl)
      refine D_take 11 rfl (pev_ok rfl) ?_ rfl rfl (by kernel_rfl) (by kernel_rfl)
      refine D_take 12 rfl (pev_ok rfl) ?_ rfl rfl (by kernel_rfl) (by kernel_rfl)
      have h := nd0 (bl, A8, c8, A9, c9, b8, b9)
      try dsimp only at h
      exact D_at h (by repeat first | exact Sub.nil | refine Sub.cons rfl ?_) sub_st (by kernel_rfl)
    refine D_nodeR #[true, true, true, true, true, true, true, true, true, false, false, false, false, true, false, false, false] (fun x : Nat × Option Addr × Nat × Nat => [(36, .agg #[.slice x.2.1 C.length x.2.2.1]), (8, .pointer (some ⟨x.2.2.2, 0, none⟩)), (35, .slice x.2.1 C.length x.2.2.1), (32, .slice (some ⟨x.1, 0, none⟩) 0 0), (29, .agg #[.slice A5 L1.length c5]), (31, .agg #[.slice A6 L2.length c6]), (34, .slice A4 C.length c4), (3, .pointer (some ⟨b3, 0, none⟩)), (4, .pointer (some ⟨b4, 0, none⟩)), (5, .pointer (some ⟨b5, 0, none⟩))]) (fun x : Nat × Option Addr × Nat × Nat => [pt x.2.2.2 24 [.slice none 0 0], row 73 3 x.2.1 C.length x.2.2.1 (cellsL chc C), pt b7 26 [.slice A5 L1.length c5, .slice A6 L2.length c6, .slice A7 0 c7], row 70 2 A6 L2.length c6 (cellsL rwc L2), row 70 2 A5 L1.length c5 (cellsL rwc L1), pt b5 29 [.slice A4 C.length c4], pt b4 24 [.slice A2 L2.length c2'], pt b3 24 [.slice A1 L1.length c1']]) (fun x => ?_) (fun nd5 => ?_)
    · skip
      obtain ⟨bl, A8, c8, b8⟩ := x
      try dsimp only
      refine D_two 9 14 (by decide) rfl rfl (E_hv1 (f := 30) ⟨_, Try.func30, rfl, by kernel_rfl⟩ (fun w hS => rebase_any w A5 A6 A8 c5 c6 c8 L1 L2 C ((Srd.row (A := A5) (n := L1.length) (c := c5)).rd w hS) ((Srd.row (A := A6) (n := L2.length) (c := c6)).rd w hS) ((Srd.row (A := A8) (n := C.length) (c := c8)).rd w hS) (by omega) (by omega) (by omega) hp1 hp2 hp4) rfl rfl (fun _ => rfl)) (E_alloc1 rfl er_zero rfl) ?_ ?_ rfl rfl rfl rfl (by kernel_rfl)
      · rintro _ _ ⟨⟨A9, c9⟩, rfl, _, rfl⟩; rw [hR, he]
        refine Nx_same sub_st ?_
        refine D_take 10 rfl (pev_ok rfl) ?_ rfl rfl (by kernel_rfl) (by kernel_rfl)
        refine D_take 11 rfl (pev_ok rfl) ?_ rfl rfl (by kernel_rfl) (by kernel_rfl)
        refine D_take 12 rfl (pev_ok rfl) ?_ rfl rfl (by kernel_rfl) (by kernel_rfl)
        have h := nd1 (bl, A8, c8, A9, c9, b8)
        try dsimp only at h
        exact D_at h (by repeat first | exact Sub.nil | refine Sub.cons rfl ?_) sub_st (by kernel_rfl)
      · rintro _ _ ⟨b9, rfl, rfl⟩
        refine Nx_same sub_st ?_
        have h := nd4 (bl, A8, c8, b8, b9)
        try dsimp only at h
        exact D_at h (by repeat first | exact Sub.nil | refine Sub.cons rfl ?_) sub_st (by kernel_rfl)
    refine D_nodeR #[true, true, true, true, true, true, true, true, true, false, false, false, false, false, true, false, false] (fun x : Nat × Option Addr × Nat × Nat => [(36, .agg #[.slice x.2.1 C.length x.2.2.1]), (9, .pointer (some ⟨x.2.2.2, 0, none⟩)), (35, .slice x.2.1 C.length x.2.2.1), (32, .slice (some ⟨x.1, 0, none⟩) 0 0), (29, .agg #[.slice A5 L1.length c5]), (31, .agg #[.slice A6 L2.length c6]), (34, .slice A4 C.length c4), (3, .pointer (some ⟨b3, 0, none⟩)), (4, .pointer (some ⟨b4, 0, none⟩)), (5, .pointer (some ⟨b5, 0, none⟩))]) (fun x : Nat × Option Addr × Nat × Nat => [pt x.2.2.2 34 [zi 0], row 73 3 x.2.1 C.length x.2.2.1 (cellsL chc C), pt b7 26 [.slice A5 L1.length c5, .slice A6 L2.length c6, .slice A7 0 c7], row 70 2 A6 L2.length c6 (cellsL rwc L2), row 70 2 A5 L1.length c5 (cellsL rwc L1), pt b5 29 [.slice A4 C.length c4], pt b4 24 [.slice A2 L2.length c2'], pt b3 24 [.slice A1 L1.length c1']]) (fun x => ?_) (fun nd6 => ?_)
    · skip
      obtain ⟨bl, A8, c8, b9⟩ := x
      try dsimp only
      refine D_two 9 13 (by decide) rfl rfl (E_hv1 (f := 30) ⟨_, Try.func30, rfl, by kernel_rfl⟩ (fun w hS => rebase_any w A5 A6 A8 c5 c6 c8 L1 L2 C ((Srd.row (A := A5) (n := L1.length) (c := c5)).rd w hS) ((Srd.row (A := A6) (n := L2.length) (c := c6)).rd w hS) ((Srd.row (A := A8) (n := C.length) (c := c8)).rd w hS) (by omega) (by omega) (by omega) hp1 hp2 hp4) rfl rfl (fun _ => rfl)) (E_alloca rfl mp_alloc) ?_ ?_ rfl rfl rfl rfl (by kernel_rfl)
      · rintro _ _ ⟨⟨A9, c9⟩, rfl, _, rfl⟩; rw [hR, he]
        refine Nx_same sub_st ?_
        refine D_take 10 rfl (pev_ok rfl) ?_ rfl rfl (by kernel_rfl) (by kernel_rfl)
        refine D_take 11 rfl (pev_ok rfl) ?_ rfl rfl (by kernel_rfl) (by kernel_rfl)
        refine D_take 12 rfl (pev_ok rfl) ?_ rfl rfl (by kernel_rfl) (by kernel_rfl)
        have h := nd2 (bl, A8, c8, A9, c9, b9)
        try dsimp only at h
        exact D_at h (by repeat first | exact Sub.nil | refine Sub.cons rfl ?_) sub_st (by kernel_rfl)
      · rintro _ _ ⟨b8, rfl, rfl⟩
        refine Nx_same sub_st ?_
        have h := nd4 (bl, A8, c8, b8, b9)
        try dsimp only at h
        exact D_at h (by repeat first | exact Sub.nil | refine Sub.cons rfl ?_) sub_st (by kernel_rfl)
    refine D_nodeR #[true, true, true, true, true, true, true, true, true, false, false, false, false, false, false, false, false] (fun x : Nat × Option Addr × Nat => [(36, .agg #[.slice x.2.1 C.length x.2.2]), (35, .slice x.2.1 C.length x.2.2), (32, .slice (some ⟨x.1, 0, none⟩) 0 0), (29, .agg #[.slice A5 L1.length c5]), (31, .agg #[.slice A6 L2.length c6]), (34, .slice A4 C.length c4), (3, .pointer (some ⟨b3, 0, none⟩)), (4, .pointer (some ⟨b4, 0, none⟩)), (5, .pointer (some ⟨b5, 0, none⟩))]) (fun x : Nat × Option Addr × Nat => [row 73 3 x.2.1 C.length x.2.2 (cellsL chc C), pt b7 26 [.slice A5 L1.length c5, .slice A6 L2.length c6, .slice A7 0 c7], row 70 2 A6 L2.length c6 (cellsL rwc L2), row 70 2 A5 L1.length c5 (cellsL rwc L1), pt b5 29 [.slice A4 C.length c4], pt b4 24 [.slice A2 L2.length c2'], pt b3 24 [.slice A1 L1.length c1']]) (fun x => ?_) (fun nd7 => ?_)
    · skip
      obtain ⟨bl, A8, c8⟩ := x
      try dsimp only
      refine D_three 9 13 14 rfl rfl rfl (E_hv1 (f := 30) ⟨_, Try.func30, rfl, by kernel_rfl⟩ (fun w hS => rebase_any w A5 A6 A8 c5 c6 c8 L1 L2 C ((Srd.row (A := A5) (n := L1.length) (c := c5)).rd w hS) ((Srd.row (A := A6) (n := L2.length) (c := c6)).rd w hS) ((Srd.row (A := A8) (n := C.length) (c := c8)).rd w hS) (by omega) (by omega) (by omega) hp1 hp2 hp4) rfl rfl (fun _ => rfl)) (E_alloca rfl mp_alloc) (E_alloc1 rfl er_zero rfl) ?_ ?_ ?_ rfl rfl rfl rfl rfl rfl (by kernel_rfl)
      · rintro _ _ ⟨⟨A9, c9⟩, rfl, _, rfl⟩; rw [hR, he]
        refine Nx_same sub_st ?_
        refine D_take 10 rfl (pev_ok rfl) ?_ rfl rfl (by kernel_rfl) (by kernel_rfl)
        refine D_take 11 rfl (pev_ok rfl) ?_ rfl rfl (by kernel_rfl) (by kernel_rfl)
        refine D_take 12 rfl (pev_ok rfl) ?_ rfl rfl (by kernel_rfl) (by kernel_rfl)
        have h := nd3 (bl, A8, c8, A9, c9)
        try dsimp only at h
        exact D_at h (by repeat first | exact Sub.nil | refine Sub.cons rfl ?_) sub_st (by kernel_rfl)
      · rintro _ _ ⟨b8, rfl, rfl⟩
        refine Nx_same sub_st ?_
        have h := nd5 (bl, A8, c8, b8)
        try dsimp only at h
        exact D_at h (by repeat first | exact Sub.nil | refine Sub.cons rfl ?_) sub_st (by kernel_rfl)
      · rintro _ _ ⟨b9, rfl, rfl⟩
        refine Nx_same sub_st ?_
        have h := nd6 (bl, A8, c8, b9)
        try dsimp only at h
        exact D_at h (by repeat first | exact Sub.nil | refine Sub.cons rfl ?_) sub_st (by kernel_rfl)
    refine D_nodeR #[true, true, true, true, true, true, true, false, false, false, false, false, false, true, true, false, false] (fun x : Nat × Nat × Nat => [(9, .pointer (some ⟨x.2.2, 0, none⟩)), (8, .pointer (some ⟨x.2.1, 0, none⟩)), (32, .slice (some ⟨x.1, 0, none⟩) 0 0), (29, .agg #[.slice A5 L1.length c5]), (31, .agg #[.slice A6 L2.length c6]), (34, .slice A4 C.length c4), (3, .pointer (some ⟨b3, 0, none⟩)), (4, .pointer (some ⟨b4, 0, none⟩)), (5, .pointer (some ⟨b5, 0, none⟩))]) (fun x : Nat × Nat × Nat => [pt x.2.2 34 [zi 0], pt x.2.1 24 [.slice none 0 0], pt x.1 73 [], pt b7 26 [.slice A5 L1.length c5, .slice A6 L2.length c6, .slice A7 0 c7], row 70 2 A6 L2.length c6 (cellsL rwc L2), row 70 2 A5 L1.length c5 (cellsL rwc L1), pt b5 29 [.slice A4 C.length c4], pt b4 24 [.slice A2 L2.length c2'], pt b3 24 [.slice A1 L1.length c1']]) (fun x => ?_) (fun nd8 => ?_)
    · skip
      obtain ⟨bl, b8, b9⟩ := x
      try dsimp only
      refine D_one 7 rfl (E_apple (sz := 3) (news := cellsL chc C) rfl rfl rfl rfl rfl rfl rfl (by decide) (by first | exact .here | exact .there .here | exact .there (.there .here)) (Srd.old h4 (fun k _ => noOwns k)) (ch_ones C) (by show C.length * 40 ≤ _; omega) (by unfold maxLen; omega)) ?_ rfl rfl (by kernel_rfl)
      rintro _ _ ⟨A8, c8, rfl, rfl⟩
      refine Nx_same sub_st ?_
      refine D_take 8 rfl (T_build1 rfl (ed_built1 _ _ _)) ?_ rfl rfl (by kernel_rfl) (by kernel_rfl)
      have h := nd4 (bl, A8, c8, b8, b9)
      try dsimp only at h
      exact D_at h (by repeat first | exact Sub.nil | refine Sub.cons rfl ?_) sub_st (by kernel_rfl)
    refine D_nodeR #[true, true, true, true, true, true, true, false, false, false, false, false, false, true, false, false, false] (fun x : Nat × Nat => [(8, .pointer (some ⟨x.2, 0, none⟩)), (32, .slice (some ⟨x.1, 0, none⟩) 0 0), (29, .agg #[.slice A5 L1.length c5]), (31, .agg #[.slice A6 L2.length c6]), (34, .slice A4 C.length c4), (3, .pointer (some ⟨b3, 0, none⟩)), (4, .pointer (some ⟨b4, 0, none⟩)), (5, .pointer (some ⟨b5, 0, none⟩))]) (fun x : Nat × Nat => [pt x.2 24 [.slice none 0 0], pt x.1 73 [], pt b7 26 [.slice A5 L1.length c5, .slice A6 L2.length c6, .slice A7 0 c7], row 70 2 A6 L2.length c6 (cellsL rwc L2), row 70 2 A5 L1.length c5 (cellsL rwc L1), pt b5 29 [.slice A4 C.length c4], pt b4 24 [.slice A2 L2.length c2'], pt b3 24 [.slice A1 L1.length c1']]) (fun x => ?_) (fun nd9 => ?_)
    · skip
      obtain ⟨bl, b8⟩ := x
      try dsimp only
      refine D_two 7 14 (by decide) rfl rfl (E_apple (sz := 3) (news := cellsL chc C) rfl rfl rfl rfl rfl rfl rfl (by decide) (by first | exact .here | exact .there .here | exact .there (.there .here)) (Srd.old h4 (fun k _ => noOwns k)) (ch_ones C) (by show C.length * 40 ≤ _; omega) (by unfold maxLen; omega)) (E_alloc1 rfl er_zero rfl) ?_ ?_ rfl rfl rfl rfl (by kernel_rfl)
      · rintro _ _ ⟨A8, c8, rfl, rfl⟩
        refine Nx_same sub_st ?_
        refine D_take 8 rfl (T_build1 rfl (ed_built1 _ _ _)) ?_ rfl rfl (by kernel_rfl) (by kernel_rfl)
        have h := nd5 (bl, A8, c8, b8)
        try dsimp only at h
        exact D_at h (by repeat first | exact Sub.nil | refine Sub.cons rfl ?_) sub_st (by kernel_rfl)
      · rintro _ _ ⟨b9, rfl, rfl⟩
        refine Nx_same sub_st ?_
        have h := nd8 (bl, b8, b9)
        try dsimp only at h
        exact D_at h (by repeat first | exact Sub.nil | refine Sub.cons rfl ?_) sub_st (by kernel_rfl)
    refine D_nodeR #[true, true, true, true, true, true, true, false, false, false, false, false, false, false, true, false, false] (fun x : Nat × Nat => [(9, .pointer (some ⟨x.2, 0, none⟩)), (32, .slice (some ⟨x.1, 0, none⟩) 0 0), (29, .agg #[.slice A5 L1.length c5]), (31, .agg #[.slice A6 L2.length c6]), (34, .slice A4 C.length c4), (3, .pointer (some ⟨b3, 0, none⟩)), (4, .pointer (some ⟨b4, 0, none⟩)), (5, .pointer (some ⟨b5, 0, none⟩))]) (fun x : Nat × Nat => [pt x.2 34 [zi 0], pt x.1 73 [], pt b7 26 [.slice A5 L1.length c5, .slice A6 L2.length c6, .slice A7 0 c7], row 70 2 A6 L2.length c6 (cellsL rwc L2), row 70 2 A5 L1.length c5 (cellsL rwc L1), pt b5 29 [.slice A4 C.length c4], pt b4 24 [.slice A2 L2.length c2'], pt b3 24 [.slice A1 L1.length c1']]) (fun x => ?_) (fun nd10 => ?_)
    · skip
      obtain ⟨bl, b9⟩ := x
      try dsimp only
      refine D_two 7 13 (by decide) rfl rfl (E_apple (sz := 3) (news := cellsL chc C) rfl rfl rfl rfl rfl rfl rfl (by decide) (by first | exact .here | exact .there .here | exact .there (.there .here)) (Srd.old h4 (fun k _ => noOwns k)) (ch_ones C) (by show C.length * 40 ≤ _; omega) (by unfold maxLen; omega)) (E_alloca rfl mp_alloc) ?_ ?_ rfl rfl rfl rfl (by kernel_rfl)
      · rintro _ _ ⟨A8, c8, rfl, rfl⟩
        refine Nx_same sub_st ?_
        refine D_take 8 rfl (T_build1 rfl (ed_built1 _ _ _)) ?_ rfl rfl (by kernel_rfl) (by kernel_rfl)
        have h := nd6 (bl, A8, c8, b9)
        try dsimp only at h
        exact D_at h (by repeat first | exact Sub.nil | refine Sub.cons rfl ?_) sub_st (by kernel_rfl)
      · rintro _ _ ⟨b8, rfl, rfl⟩
        refine Nx_same sub_st ?_
        have h := nd8 (bl, b8, b9)
        try dsimp only at h
        exact D_at h (by repeat first | exact Sub.nil | refine Sub.cons rfl ?_) sub_st (by kernel_rfl)
    refine D_nodeR #[true, true, true, true, false, true, true, false, false, false, false, false, false, true, true, false, false] (fun x : Nat × Nat => [(9, .pointer (some ⟨x.2, 0, none⟩)), (8, .pointer (some ⟨x.1, 0, none⟩)), (29, .agg #[.slice A5 L1.length c5]), (31, .agg #[.slice A6 L2.length c6]), (34, .slice A4 C.length c4), (3, .pointer (some ⟨b3, 0, none⟩)), (4, .pointer (some ⟨b4, 0, none⟩)), (5, .pointer (some ⟨b5, 0, none⟩))]) (fun x : Nat × Nat => [pt x.2 34 [zi 0], pt x.1 24 [.slice none 0 0], pt b7 26 [.slice A5 L1.length c5, .slice A6 L2.length c6, .slice A7 0 c7], row 70 2 A6 L2.length c6 (cellsL rwc L2), row 70 2 A5 L1.length c5 (cellsL rwc L1), pt b5 29 [.slice A4 C.length c4], pt b4 24 [.slice A2 L2.length c2'], pt b3 24 [.slice A1 L1.length c1']]) (fun x => ?_) (fun nd11 => ?_)
    · skip
      obtain ⟨b8, b9⟩ := x
      try dsimp only
      refine D_one 4 rfl (E_litS (vs := []) (size := 3) (ds := []) rfl rfl rfl rfl rfl rfl (by simp) rfl (by omega)) ?_ rfl rfl (by kernel_rfl)
      rintro _ _ ⟨bl, rfl, rfl⟩
      refine Nx_same sub_st ?_
      have h := nd8 (bl, b8, b9)
      try dsimp only at h
      exact D_at h (by repeat first | exact Sub.nil | refine Sub.cons rfl ?_) sub_st (by kernel_rfl)
    refine D_nodeR #[true, true, true, true, true, true, true, false, false, false, false, false, false, false, false, false, false] (fun x : Nat => [(32, .slice (some ⟨x, 0, none⟩) 0 0), (29, .agg #[.slice A5 L1.length c5]), (31, .agg #[.slice A6 L2.length c6]), (34, .slice A4 C.length c4), (3, .pointer (some ⟨b3, 0, none⟩)), (4, .pointer (some ⟨b4, 0, none⟩)), (5, .pointer (some ⟨b5, 0, none⟩))]) (fun x : Nat => [pt x 73 [], pt b7 26 [.slice A5 L1.length c5, .slice A6 L2.length c6, .slice A7 0 c7], row 70 2 A6 L2.length c6 (cellsL rwc L2), row 70 2 A5 L1.length c5 (cellsL rwc L1), pt b5 29 [.slice A4 C.length c4], pt b4 24 [.slice A2 L2.length c2'], pt b3 24 [.slice A1 L1.length c1']]) (fun x => ?_) (fun nd12 => ?_)
    · skip
      revert x; intro bl
      try dsimp only
      refine D_three 7 13 14 rfl rfl rfl (E_apple (sz := 3) (news := cellsL chc C) rfl rfl rfl rfl rfl rfl rfl (by decide) (by first | exact .here | exact .there .here | exact .there (.there .here)) (Srd.old h4 (fun k _ => noOwns k)) (ch_ones C) (by show C.length * 40 ≤ _; omega) (by unfold maxLen; omega)) (E_alloca rfl mp_alloc) (E_alloc1 rfl er_zero rfl) ?_ ?_ ?_ rfl rfl rfl rfl rfl rfl (by kernel_rfl)
      · rintro _ _ ⟨A8, c8, rfl, rfl⟩
        refine Nx_same sub_st ?_
        refine D_take 8 rfl (T_build1 rfl (ed_built1 _ _ _)) ?_ rfl rfl (by kernel_rfl) (by kernel_rfl)
        have h := nd7 (bl, A8, c8)
        try dsimp only at h
        exact D_at h (by repeat first | exact Sub.nil | refine Sub.cons rfl ?_) sub_st (by kernel_rfl)
      · rintro _ _ ⟨b8, rfl, rfl⟩
        refine Nx_same sub_st ?_
        have h := nd9 (bl, b8)
        try dsimp only at h
        exact D_at h (by repeat first | exact Sub.nil | refine Sub.cons rfl ?_) sub_st (by kernel_rfl)
      · rintro _ _ ⟨b9, rfl, rfl⟩
        refine Nx_same sub_st ?_
        have h := nd10 (bl, b9)
        try dsimp only at h
        exact D_at h (by repeat first | exact Sub.nil | refine Sub.cons rfl ?_) sub_st (by kernel_rfl)
    refine D_nodeR #[true, true, true, true, false, true, true, false, false, false, false, false, false, true, false, false, false] (fun x : Nat => [(8, .pointer (some ⟨x, 0, none⟩)), (29, .agg #[.slice A5 L1.length c5]), (31, .agg #[.slice A6 L2.length c6]), (34, .slice A4 C.length c4), (3, .pointer (some ⟨b3, 0, none⟩)), (4, .pointer (some ⟨b4, 0, none⟩)), (5, .pointer (some ⟨b5, 0, none⟩))]) (fun x : Nat => [pt x 24 [.slice none 0 0], pt b7 26 [.slice A5 L1.length c5, .slice A6 L2.length c6, .slice A7 0 c7], row 70 2 A6 L2.length c6 (cellsL rwc L2), row 70 2 A5 L1.length c5 (cellsL rwc L1), pt b5 29 [.slice A4 C.length c4], pt b4 24 [.slice A2 L2.length c2'], pt b3 24 [.slice A1 L1.length c1']]) (fun x => ?_) (fun nd13 => ?_)
    · skip
      revert x; intro b8
      try dsimp only
      refine D_two 4 14 (by decide) rfl rfl (E_litS (vs := []) (size := 3) (ds := []) rfl rfl rfl rfl rfl rfl (by simp) rfl (by omega)) (E_alloc1 rfl er_zero rfl) ?_ ?_ rfl rfl rfl rfl (by kernel_rfl)
      · rintro _ _ ⟨bl, rfl, rfl⟩
        refine Nx_same sub_st ?_
        have h := nd9 (bl, b8)
        try dsimp only at h
        exact D_at h (by repeat first | exact Sub.nil | refine Sub.cons rfl ?_) sub_st (by kernel_rfl)
      · rintro _ _ ⟨b9, rfl, rfl⟩
        refine Nx_same sub_st ?_
        have h := nd11 (b8, b9)
        try dsimp only at h
        exact D_at h (by repeat first | exact Sub.nil | refine Sub.cons rfl ?_) sub_st (by kernel_rfl)
    refine D_nodeR #[true, true, true, true, false, true, true, false, false, false, false, false, false, false, true, false, false] (fun x : Nat => [(9, .pointer (some ⟨x, 0, none⟩)), (29, .agg #[.slice A5 L1.length c5]), (31, .agg #[.slice A6 L2.length c6]), (34, .slice A4 C.length c4), (3, .pointer (some ⟨b3, 0, none⟩)), (4, .pointer (some ⟨b4, 0, none⟩)), (5, .pointer (some ⟨b5, 0, none⟩))]) (fun x : Nat => [pt x 34 [zi 0], pt b7 26 [.slice A5 L1.length c5, .slice A6 L2.length c6, .slice A7 0 c7], row 70 2 A6 L2.length c6 (cellsL rwc L2), row 70 2 A5 L1.length c5 (cellsL rwc L1), pt b5 29 [.slice A4 C.length c4], pt b4 24 [.slice A2 L2.length c2'], pt b3 24 [.slice A1 L1.length c1']]) (fun x => ?_) (fun nd14 => ?_)
    · skip
      revert x; intro b9
      try dsimp only
      refine D_two 4 13 (by decide) rfl rfl (E_litS (vs := []) (size := 3) (ds := []) rfl rfl rfl rfl rfl rfl (by simp) rfl (by omega)) (E_alloca rfl mp_alloc) ?_ ?_ rfl rfl rfl rfl (by kernel_rfl)
      · rintro _ _ ⟨bl, rfl, rfl⟩
        refine Nx_same sub_st ?_
        have h := nd10 (bl, b9)
        try dsimp only at h
        exact D_at h (by repeat first | exact Sub.nil | refine Sub.cons rfl ?_) sub_st (by kernel_rfl)
      · rintro _ _ ⟨b8, rfl, rfl⟩
        refine Nx_same sub_st ?_
        have h := nd11 (b8, b9)
        try dsimp only at h
        exact D_at h (by repeat first | exact Sub.nil | refine Sub.cons rfl ?_) sub_st (by kernel_rfl)
    refine D_nodeR #[true, true, true, true, false, true, true, false, false, false, false, false, false, false, false, false, false] (fun _ : Unit => [(29, .agg #[.slice A5 L1.length c5]), (31, .agg #[.slice A6 L2.length c6]), (34, .slice A4 C.length c4), (3, .pointer (some ⟨b3, 0, none⟩)), (4, .pointer (some ⟨b4, 0, none⟩)), (5, .pointer (some ⟨b5, 0, none⟩))]) (fun _ : Unit => [pt b7 26 [.slice A5 L1.length c5, .slice A6 L2.length c6, .slice A7 0 c7], row 70 2 A6 L2.length c6 (cellsL rwc L2), row 70 2 A5 L1.length c5 (cellsL rwc L1), pt b5 29 [.slice A4 C.length c4], pt b4 24 [.slice A2 L2.length c2'], pt b3 24 [.slice A1 L1.length c1']]) (fun x => ?_) (fun nd15 => ?_)
    · skip
      obtain ⟨⟩ := x
      try dsimp only
      refine D_three 4 13 14 rfl rfl rfl (E_litS (vs := []) (size := 3) (ds := []) rfl rfl rfl rfl rfl rfl (by simp) rfl (by omega)) (E_alloca rfl mp_alloc) (E_alloc1 rfl er_zero rfl) ?_ ?_ ?_ rfl rfl rfl rfl rfl rfl (by kernel_rfl)
      · rintro _ _ ⟨bl, rfl, rfl⟩
        refine Nx_same sub_st ?_
        have h := nd12 (bl)
        try dsimp only at h
        exact D_at h (by repeat first | exact Sub.nil | refine Sub.cons rfl ?_) sub_st (by kernel_rfl)
      · rintro _ _ ⟨b8, rfl, rfl⟩
        refine Nx_same sub_st ?_
        have h := nd13 (b8)
        try dsimp only at h
        exact D_at h (by repeat first | exact Sub.nil | refine Sub.cons rfl ?_) sub_st (by kernel_rfl)
      · rintro _ _ ⟨b9, rfl, rfl⟩
        refine Nx_same sub_st ?_
        have h := nd14 (b9)
        try dsimp only at h
        exact D_at h (by repeat first | exact Sub.nil | refine Sub.cons rfl ?_) sub_st (by kernel_rfl)
    have h := nd15 ()
    try dsimp only at h
    exact D_at h (by repeat first | exact Sub.nil | refine Sub.cons rfl ?_) sub_st (by kernel_rfl)
    obtain ⟨bl, A8, c8, A9, c9, b8, b9⟩ := x
    try dsimp only
    refine D_one 15 rfl (E_storew (ds := [.slice A9 R.length c9]) (cs := [.slice none 0 0]) rfl rfl rfl rfl (sl_one _ _ _) rfl) ?_ rfl rfl (by kernel_rfl)
    rintro _ _ rfl
    refine Nx_same sub_st ?_
    refine D_one 16 rfl (E_store1 rfl rfl rfl rfl rfl rfl (by first | (simp; done) | (simp; omega) | decide)) ?_ rfl rfl (by kernel_rfl)
    rintro _ _ rfl
    refine Nx_same sub_st ?_
    refine D_done ?_ (by kernel_rfl)
    skip
    refine hJ (b8, b9, A9, c9) _ _ trivial (Sub.cons rfl (Sub.cons rfl (Sub.cons rfl (Sub.cons rfl (Sub.cons rfl Sub.nil))))) fun w' hS => ?_
    simp only [Nat.add_zero, List.set_cons_zero] at hS
    exact sub_st w' hS
  obtain ⟨b8, b9, A9, c9⟩ := x
  dsimp only
  cases hr : chkR L1
  · have e0 : appE L1 C = 150 := by rw [appE, hr]; rfl
    have e1 : e = 150 := by rw [← he, rbE, e0]; rfl
    have e2 : R.length = 0 := by rw [← hR, rbR, e0]; rfl
    focus (refine S_seq rfl ?_; refine S_region rfl rfl ?_; refine R_take (T_func rfl rfl) ?_ rfl rfl; refine R_p rfl ?_ rfl rfl; refine R_nil ?_; refine S_seq rfl ?_; refine S_block rfl ?_; refine S_seq rfl ?_; refine S_region rfl rfl ?_; refine R_take (T_loads (ds := [.slice A1 L1.length c1']) rfl rfl rfl rfl rfl) ?_ rfl rfl; (refine R_eff (E_rightRW (L := L1) (r := false) (A := A1) (m := L1.length) (c := c1') rfl (Srd.old h1 (fun k _ => noOwns k)) (by omega) hp1 hr) ?_ rfl rfl; rintro _ _ ⟨rfl, rfl⟩); refine R_take (T_not rfl) ?_ rfl rfl; refine R_p rfl ?_ rfl rfl; refine R_nil ?_; refine S_true rfl rfl ?_; refine S_seq rfl ?_; refine S_region rfl rfl ?_; refine R_p rfl ?_ rfl rfl; (refine R_eff (E_cloA (cap := [.pointer (some ⟨b9, 0, none⟩), .pointer (some ⟨b8, 0, none⟩)]) rfl (E_hv0 (f := 31) ⟨_, Try.func31, rfl, by kernel_rfl⟩ (fun w hS => no2_any w 150 e b9 b8 A9 R.length c9 ((Srd.pt (g := b9) (n := 1) (ds := [zi e]) rfl (fun j u hj => by rw [Nat.zero_add]; exact hj)).rd w hS) ((Srd.pt (g := b8) (n := 1) (ds := [.slice A9 R.length c9]) rfl (fun j u hj => by rw [Nat.zero_add]; exact hj)).rd w hS) ⟨by omega, by omega⟩) rfl rfl (fun _ => rfl))) ?_ rfl rfl; rintro _ _ ⟨_, rfl, _, rfl⟩); refine R_p rfl ?_ rfl rfl; refine R_nil ?_)
    exact hB _ _ _ _ _ rfl rfl fun w' hS => ⟨(), rfl, trivial, hS.sublist (List.nil_sublist _)⟩
  cases hrc : chkC C
  · have e0 : appE L1 C = 151 := by rw [appE, hr, hrc]; rfl
    have e1 : e = 151 := by rw [← he, rbE, e0]; rfl
    have e2 : R.length = 0 := by rw [← hR, rbR, e0]; rfl
    focus (refine S_seq rfl ?_; refine S_region rfl rfl ?_; refine R_take (T_func rfl rfl) ?_ rfl rfl; refine R_p rfl ?_ rfl rfl; refine R_nil ?_; refine S_seq rfl ?_; refine S_block rfl ?_; refine S_seq rfl ?_; refine S_region rfl rfl ?_; refine R_take (T_loads (ds := [.slice A1 L1.length c1']) rfl rfl rfl rfl rfl) ?_ rfl rfl; (refine R_eff (E_rightRW (L := L1) (r := true) (A := A1) (m := L1.length) (c := c1') rfl (Srd.old h1 (fun k _ => noOwns k)) (by omega) hp1 hr) ?_ rfl rfl; rintro _ _ ⟨rfl, rfl⟩); refine R_take (T_not rfl) ?_ rfl rfl; refine R_p rfl ?_ rfl rfl; refine R_nil ?_; refine S_false rfl rfl ?_; refine S_seq rfl ?_; refine S_region rfl rfl ?_; refine R_take (T_loads (ds := [.slice A4 C.length c4]) rfl rfl rfl rfl rfl) ?_ rfl rfl; (refine R_eff (E_rightCW (L := C) (r := false) (A := A4) (m := C.length) (c := c4) rfl (Srd.old h4 (fun k _ => noOwns k)) (by omega) hp4 hrc) ?_ rfl rfl; rintro _ _ ⟨rfl, rfl⟩); refine R_take (T_not rfl) ?_ rfl rfl; refine R_p rfl ?_ rfl rfl; refine R_nil ?_; refine S_true rfl rfl ?_; refine S_seq rfl ?_; refine S_region rfl rfl ?_; refine R_p rfl ?_ rfl rfl; (refine R_eff (E_cloA (cap := [.pointer (some ⟨b9, 0, none⟩), .pointer (some ⟨b8, 0, none⟩)]) rfl (E_hv0 (f := 31) ⟨_, Try.func31, rfl, by kernel_rfl⟩ (fun w hS => no2_any w 151 e b9 b8 A9 R.length c9 ((Srd.pt (g := b9) (n := 1) (ds := [zi e]) rfl (fun j u hj => by rw [Nat.zero_add]; exact hj)).rd w hS) ((Srd.pt (g := b8) (n := 1) (ds := [.slice A9 R.length c9]) rfl (fun j u hj => by rw [Nat.zero_add]; exact hj)).rd w hS) ⟨by omega, by omega⟩) rfl rfl (fun _ => rfl))) ?_ rfl rfl; rintro _ _ ⟨_, rfl, _, rfl⟩); refine R_p rfl ?_ rfl rfl; refine R_nil ?_)
    exact hB _ _ _ _ _ rfl rfl fun w' hS => ⟨(), rfl, trivial, hS.sublist (List.nil_sublist _)⟩
  have hu := app_res (chkR_srt hr).2.1 (chkC_srt hrc).2.1
  have hul := appU_len L1 C
  obtain ⟨S, hU⟩ : ∃ S, resA L1 C = S := ⟨_, rfl⟩
  rw [hu, hU] at hul
  obtain ⟨V, hW⟩ : ∃ V, rmg L1 L2 S [] = V := ⟨_, rfl⟩
  have hVl : V.length ≤ L1.length + L2.length + S.length := by
    rw [← hW, rmg]
    exact Nat.le_trans (List.length_filterMap_le _ _) (pathsR_len _ _ _)
  obtain ⟨k1, k2⟩ := rb_cases (L2 := L2) hr hrc hU hW
  rw [he, hR] at k1 k2
  rcases Nat.lt_or_ge 32 S.length with hfl | hfl
  · obtain ⟨e1, e2⟩ := k1 hfl
    have e2 : R.length = 0 := by rw [e2]; rfl
    focus (refine S_seq rfl ?_; refine S_region rfl rfl ?_; refine R_take (T_func rfl rfl) ?_ rfl rfl; refine R_p rfl ?_ rfl rfl; refine R_nil ?_; refine S_seq rfl ?_; refine S_block rfl ?_; refine S_seq rfl ?_; refine S_region rfl rfl ?_; refine R_take (T_loads (ds := [.slice A1 L1.length c1']) rfl rfl rfl rfl rfl) ?_ rfl rfl; (refine R_eff (E_rightRW (L := L1) (r := true) (A := A1) (m := L1.length) (c := c1') rfl (Srd.old h1 (fun k _ => noOwns k)) (by omega) hp1 hr) ?_ rfl rfl; rintro _ _ ⟨rfl, rfl⟩); refine R_take (T_not rfl) ?_ rfl rfl; refine R_p rfl ?_ rfl rfl; refine R_nil ?_; refine S_false rfl rfl ?_; refine S_seq rfl ?_; refine S_region rfl rfl ?_; refine R_take (T_loads (ds := [.slice A4 C.length c4]) rfl rfl rfl rfl rfl) ?_ rfl rfl; (refine R_eff (E_rightCW (L := C) (r := true) (A := A4) (m := C.length) (c := c4) rfl (Srd.old h4 (fun k _ => noOwns k)) (by omega) hp4 hrc) ?_ rfl rfl; rintro _ _ ⟨rfl, rfl⟩); refine R_take (T_not rfl) ?_ rfl rfl; refine R_p rfl ?_ rfl rfl; refine R_nil ?_; refine S_false rfl rfl ?_; refine S_skip rfl ?_; refine RS_blk ?_; refine S_seq rfl ?_; refine S_region rfl rfl ?_; refine R_take (T_loads (ds := [.slice A1 L1.length c1']) rfl rfl rfl rfl rfl) ?_ rfl rfl; refine R_take (T_loads (ds := [.slice A4 C.length c4]) rfl rfl rfl rfl rfl) ?_ rfl rfl; ((refine R_eff (E_hv1 (f := 33) ⟨_, Try.func33, rfl, by kernel_rfl⟩ (fun w hS => rapply_any w A1 A4 L1.length c1' C.length c4 L1 C ((Srd.old h1 (fun k _ => noOwns k)).rd w hS) ((Srd.old h4 (fun k _ => noOwns k)).rd w hS) (by omega) (by omega)) rfl rfl (fun _ => rfl)) ?_ rfl rfl; rintro _ _ ⟨⟨A10, c10⟩, rfl, _, rfl⟩); rw [hU]); (refine R_eff (E_alloca rfl mp_alloc) ?_ rfl rfl; rintro _ _ ⟨b11, rfl, rfl⟩); (refine R_eff0 (E_storew (ds := [.slice A10 S.length c10]) (cs := [.slice none 0 0]) rfl rfl rfl rfl (sl_one _ _ _) rfl) ?_ rfl; rintro _ _ rfl); refine R_nil ?_; refine S_seq rfl ?_; refine S_block rfl ?_; refine S_seq rfl ?_; refine S_region rfl rfl ?_; refine R_p rfl ?_ rfl rfl; refine R_take (T_load rfl rfl rfl (by first | rfl | assumption)) ?_ rfl rfl; refine R_p rfl ?_ rfl rfl; refine R_take (T_decT rfl (by omega)) ?_ rfl rfl; refine R_take (T_decT rfl (by omega)) ?_ rfl rfl; refine R_nil ?_; refine S_true rfl rfl ?_; refine S_seq rfl ?_; refine S_region rfl rfl ?_; refine R_p rfl ?_ rfl rfl; (refine R_eff (E_cloA (cap := [.pointer (some ⟨b9, 0, none⟩), .pointer (some ⟨b8, 0, none⟩)]) rfl (E_hv0 (f := 31) ⟨_, Try.func31, rfl, by kernel_rfl⟩ (fun w hS => no2_any w 6 e b9 b8 A9 R.length c9 ((Srd.pt (g := b9) (n := 1) (ds := [zi e]) rfl (fun j u hj => by rw [Nat.zero_add]; exact hj)).rd w hS) ((Srd.pt (g := b8) (n := 1) (ds := [.slice A9 R.length c9]) rfl (fun j u hj => by rw [Nat.zero_add]; exact hj)).rd w hS) ⟨by omega, by omega⟩) rfl rfl (fun _ => rfl))) ?_ rfl rfl; rintro _ _ ⟨_, rfl, _, rfl⟩); refine R_take (T_decT rfl (by omega)) ?_ rfl rfl; refine R_nil ?_)
    exact hB _ _ _ _ _ rfl rfl fun w' hS => ⟨(), rfl, trivial, hS.sublist (List.nil_sublist _)⟩
  have k2 := k2 hfl
  cases hr2 : chkR L2
  · obtain ⟨e1, e2⟩ := k2.1 hr2
    have e2 : R.length = 0 := by rw [e2]; rfl
    focus (refine S_seq rfl ?_; refine S_region rfl rfl ?_; refine R_take (T_func rfl rfl) ?_ rfl rfl; refine R_p rfl ?_ rfl rfl; refine R_nil ?_; refine S_seq rfl ?_; refine S_block rfl ?_; refine S_seq rfl ?_; refine S_region rfl rfl ?_; refine R_take (T_loads (ds := [.slice A1 L1.length c1']) rfl rfl rfl rfl rfl) ?_ rfl rfl; (refine R_eff (E_rightRW (L := L1) (r := true) (A := A1) (m := L1.length) (c := c1') rfl (Srd.old h1 (fun k _ => noOwns k)) (by omega) hp1 hr) ?_ rfl rfl; rintro _ _ ⟨rfl, rfl⟩); refine R_take (T_not rfl) ?_ rfl rfl; refine R_p rfl ?_ rfl rfl; refine R_nil ?_; refine S_false rfl rfl ?_; refine S_seq rfl ?_; refine S_region rfl rfl ?_; refine R_take (T_loads (ds := [.slice A4 C.length c4]) rfl rfl rfl rfl rfl) ?_ rfl rfl; (refine R_eff (E_rightCW (L := C) (r := true) (A := A4) (m := C.length) (c := c4) rfl (Srd.old h4 (fun k _ => noOwns k)) (by omega) hp4 hrc) ?_ rfl rfl; rintro _ _ ⟨rfl, rfl⟩); refine R_take (T_not rfl) ?_ rfl rfl; refine R_p rfl ?_ rfl rfl; refine R_nil ?_; refine S_false rfl rfl ?_; refine S_skip rfl ?_; refine RS_blk ?_; refine S_seq rfl ?_; refine S_region rfl rfl ?_; refine R_take (T_loads (ds := [.slice A1 L1.length c1']) rfl rfl rfl rfl rfl) ?_ rfl rfl; refine R_take (T_loads (ds := [.slice A4 C.length c4]) rfl rfl rfl rfl rfl) ?_ rfl rfl; ((refine R_eff (E_hv1 (f := 33) ⟨_, Try.func33, rfl, by kernel_rfl⟩ (fun w hS => rapply_any w A1 A4 L1.length c1' C.length c4 L1 C ((Srd.old h1 (fun k _ => noOwns k)).rd w hS) ((Srd.old h4 (fun k _ => noOwns k)).rd w hS) (by omega) (by omega)) rfl rfl (fun _ => rfl)) ?_ rfl rfl; rintro _ _ ⟨⟨A10, c10⟩, rfl, _, rfl⟩); rw [hU]); (refine R_eff (E_alloca rfl mp_alloc) ?_ rfl rfl; rintro _ _ ⟨b11, rfl, rfl⟩); (refine R_eff0 (E_storew (ds := [.slice A10 S.length c10]) (cs := [.slice none 0 0]) rfl rfl rfl rfl (sl_one _ _ _) rfl) ?_ rfl; rintro _ _ rfl); refine R_nil ?_; refine S_seq rfl ?_; refine S_block rfl ?_; refine S_seq rfl ?_; refine S_region rfl rfl ?_; refine R_p rfl ?_ rfl rfl; refine R_take (T_load rfl rfl rfl (by first | rfl | assumption)) ?_ rfl rfl; refine R_p rfl ?_ rfl rfl; refine R_take (T_decF rfl (by omega)) ?_ rfl rfl; refine R_p rfl ?_ rfl rfl; refine R_nil ?_; refine S_false rfl rfl ?_; refine S_seq rfl ?_; refine S_region rfl rfl ?_; refine R_take (T_loads (ds := [.slice A2 L2.length c2']) rfl rfl rfl rfl rfl) ?_ rfl rfl; (refine R_eff (E_rightRW (L := L2) (r := false) (A := A2) (m := L2.length) (c := c2') rfl (Srd.old h2 (fun k _ => noOwns k)) (by omega) hp2 hr2) ?_ rfl rfl; rintro _ _ ⟨rfl, rfl⟩); refine R_take (T_not rfl) ?_ rfl rfl; refine R_p rfl ?_ rfl rfl; refine R_nil ?_; refine S_true rfl rfl ?_; refine S_seq rfl ?_; refine S_region rfl rfl ?_; refine R_p rfl ?_ rfl rfl; (refine R_eff (E_cloA (cap := [.pointer (some ⟨b9, 0, none⟩), .pointer (some ⟨b8, 0, none⟩)]) rfl (E_hv0 (f := 31) ⟨_, Try.func31, rfl, by kernel_rfl⟩ (fun w hS => no2_any w 150 e b9 b8 A9 R.length c9 ((Srd.pt (g := b9) (n := 1) (ds := [zi e]) rfl (fun j u hj => by rw [Nat.zero_add]; exact hj)).rd w hS) ((Srd.pt (g := b8) (n := 1) (ds := [.slice A9 R.length c9]) rfl (fun j u hj => by rw [Nat.zero_add]; exact hj)).rd w hS) ⟨by omega, by omega⟩) rfl rfl (fun _ => rfl))) ?_ rfl rfl; rintro _ _ ⟨_, rfl, _, rfl⟩); refine R_p rfl ?_ rfl rfl; refine R_nil ?_)
    exact hB _ _ _ _ _ rfl rfl fun w' hS => ⟨(), rfl, trivial, hS.sublist (List.nil_sublist _)⟩
  have k2 := k2.2 hr2
  have hql : (rcnfs L1 L2 S).length ≤ L1.length + L2.length + S.length := by rw [← cnfs_R]; exact cnfs_len L1 L2 S
  by_cases hq : rcnfs L1 L2 S = []
  · have hq0 : (rcnfs L1 L2 S).length = 0 := by rw [hq]; rfl
    have k2 := k2.2 hq
    rcases Nat.lt_or_ge 32 V.length with hfv | hfv
    · obtain ⟨e1, e2⟩ := k2.1 hfv
      have e2 : R.length = 0 := by rw [e2]; rfl
      focus (refine S_seq rfl ?_; refine S_region rfl rfl ?_; refine R_take (T_func rfl rfl) ?_ rfl rfl; refine R_p rfl ?_ rfl rfl; refine R_nil ?_; refine S_seq rfl ?_; refine S_block rfl ?_; refine S_seq rfl ?_; refine S_region rfl rfl ?_; refine R_take (T_loads (ds := [.slice A1 L1.length c1']) rfl rfl rfl rfl rfl) ?_ rfl rfl; (refine R_eff (E_rightRW (L := L1) (r := true) (A := A1) (m := L1.length) (c := c1') rfl (Srd.old h1 (fun k _ => noOwns k)) (by omega) hp1 hr) ?_ rfl rfl; rintro _ _ ⟨rfl, rfl⟩); refine R_take (T_not rfl) ?_ rfl rfl; refine R_p rfl ?_ rfl rfl; refine R_nil ?_; refine S_false rfl rfl ?_; refine S_seq rfl ?_; refine S_region rfl rfl ?_; refine R_take (T_loads (ds := [.slice A4 C.length c4]) rfl rfl rfl rfl rfl) ?_ rfl rfl; (refine R_eff (E_rightCW (L := C) (r := true) (A := A4) (m := C.length) (c := c4) rfl (Srd.old h4 (fun k _ => noOwns k)) (by omega) hp4 hrc) ?_ rfl rfl; rintro _ _ ⟨rfl, rfl⟩); refine R_take (T_not rfl) ?_ rfl rfl; refine R_p rfl ?_ rfl rfl; refine R_nil ?_; refine S_false rfl rfl ?_; refine S_skip rfl ?_; refine RS_blk ?_; refine S_seq rfl ?_; refine S_region rfl rfl ?_; refine R_take (T_loads (ds := [.slice A1 L1.length c1']) rfl rfl rfl rfl rfl) ?_ rfl rfl; refine R_take (T_loads (ds := [.slice A4 C.length c4]) rfl rfl rfl rfl rfl) ?_ rfl rfl; ((refine R_eff (E_hv1 (f := 33) ⟨_, Try.func33, rfl, by kernel_rfl⟩ (fun w hS => rapply_any w A1 A4 L1.length c1' C.length c4 L1 C ((Srd.old h1 (fun k _ => noOwns k)).rd w hS) ((Srd.old h4 (fun k _ => noOwns k)).rd w hS) (by omega) (by omega)) rfl rfl (fun _ => rfl)) ?_ rfl rfl; rintro _ _ ⟨⟨A10, c10⟩, rfl, _, rfl⟩); rw [hU]); (refine R_eff (E_alloca rfl mp_alloc) ?_ rfl rfl; rintro _ _ ⟨b11, rfl, rfl⟩); (refine R_eff0 (E_storew (ds := [.slice A10 S.length c10]) (cs := [.slice none 0 0]) rfl rfl rfl rfl (sl_one _ _ _) rfl) ?_ rfl; rintro _ _ rfl); refine R_nil ?_; refine S_seq rfl ?_; refine S_block rfl ?_; refine S_seq rfl ?_; refine S_region rfl rfl ?_; refine R_p rfl ?_ rfl rfl; refine R_take (T_load rfl rfl rfl (by first | rfl | assumption)) ?_ rfl rfl; refine R_p rfl ?_ rfl rfl; refine R_take (T_decF rfl (by omega)) ?_ rfl rfl; refine R_p rfl ?_ rfl rfl; refine R_nil ?_; refine S_false rfl rfl ?_; refine S_seq rfl ?_; refine S_region rfl rfl ?_; refine R_take (T_loads (ds := [.slice A2 L2.length c2']) rfl rfl rfl rfl rfl) ?_ rfl rfl; (refine R_eff (E_rightRW (L := L2) (r := true) (A := A2) (m := L2.length) (c := c2') rfl (Srd.old h2 (fun k _ => noOwns k)) (by omega) hp2 hr2) ?_ rfl rfl; rintro _ _ ⟨rfl, rfl⟩); refine R_take (T_not rfl) ?_ rfl rfl; refine R_p rfl ?_ rfl rfl; refine R_nil ?_; refine S_false rfl rfl ?_; refine S_seq rfl ?_; refine S_region rfl rfl ?_; refine R_take (T_loads (ds := [.slice A1 L1.length c1']) rfl rfl rfl rfl rfl) ?_ rfl rfl; refine R_take (T_loads (ds := [.slice A2 L2.length c2']) rfl rfl rfl rfl rfl) ?_ rfl rfl; refine R_take (T_loads (ds := [.slice A10 S.length c10]) rfl rfl rfl rfl rfl) ?_ rfl rfl; ((refine R_eff (E_hv1 (f := 18) ⟨_, Try.func18, rfl, by kernel_rfl⟩ (fun w hS => rconflicts_any w A1 A2 A10 c1' c2' c10 L1 L2 S ((Srd.old h1 (fun k _ => noOwns k)).rd w hS) ((Srd.old h2 (fun k _ => noOwns k)).rd w hS) ((Srd.row (A := A10) (n := S.length) (c := c10)).rd w hS) (by omega) (by omega) (by omega)) rfl rfl (fun _ => rfl)) ?_ rfl rfl; rintro _ _ ⟨⟨A11, c11⟩, rfl, _, rfl⟩)); refine R_p rfl ?_ rfl rfl; refine R_take (T_decF rfl (by omega)) ?_ rfl rfl; refine R_p rfl ?_ rfl rfl; refine R_nil ?_; refine S_false rfl rfl ?_; refine S_skip rfl ?_; refine RS_blk ?_; refine S_seq rfl ?_; refine S_region rfl rfl ?_; refine R_take (T_loads (ds := [.slice A1 L1.length c1']) rfl rfl rfl rfl rfl) ?_ rfl rfl; refine R_take (T_loads (ds := [.slice A2 L2.length c2']) rfl rfl rfl rfl rfl) ?_ rfl rfl; refine R_take (T_loads (ds := [.slice A10 S.length c10]) rfl rfl rfl rfl rfl) ?_ rfl rfl; refine R_take (T_build0 ed_built0) ?_ rfl rfl; ((refine R_eff (E_hv1 (f := 19) ⟨_, Try.func19, rfl, by kernel_rfl⟩ (fun w hS => rmerge_any w A1 A2 A10 c1' c2' c10 L1 L2 S ((Srd.old h1 (fun k _ => noOwns k)).rd w hS) ((Srd.old h2 (fun k _ => noOwns k)).rd w hS) ((Srd.row (A := A10) (n := S.length) (c := c10)).rd w hS) (by omega) (by omega) (by omega) none 0 [] Rd.none_ (by decide)) rfl rfl (fun _ => rfl)) ?_ rfl rfl; rintro _ _ ⟨⟨A12, c12⟩, rfl, _, rfl⟩); rw [hW]); (refine R_eff (E_alloca rfl mp_alloc) ?_ rfl rfl; rintro _ _ ⟨b11, rfl, rfl⟩); (refine R_eff0 (E_storew (ds := [.slice A12 V.length c12]) (cs := [.slice none 0 0]) rfl rfl rfl rfl (sl_one _ _ _) rfl) ?_ rfl; rintro _ _ rfl); refine R_nil ?_; refine S_seq rfl ?_; refine S_seq rfl ?_; refine S_region rfl rfl ?_; refine R_p rfl ?_ rfl rfl; refine R_take (T_load rfl rfl rfl (by first | rfl | assumption)) ?_ rfl rfl; refine R_p rfl ?_ rfl rfl; refine R_take (T_decT rfl (by omega)) ?_ rfl rfl; refine R_nil ?_; refine S_true rfl rfl ?_; refine S_seq rfl ?_; refine S_region rfl rfl ?_; refine R_p rfl ?_ rfl rfl; (refine R_eff (E_cloA (cap := [.pointer (some ⟨b9, 0, none⟩), .pointer (some ⟨b8, 0, none⟩)]) rfl (E_hv0 (f := 31) ⟨_, Try.func31, rfl, by kernel_rfl⟩ (fun w hS => no2_any w 6 e b9 b8 A9 R.length c9 ((Srd.pt (g := b9) (n := 1) (ds := [zi e]) rfl (fun j u hj => by rw [Nat.zero_add]; exact hj)).rd w hS) ((Srd.pt (g := b8) (n := 1) (ds := [.slice A9 R.length c9]) rfl (fun j u hj => by rw [Nat.zero_add]; exact hj)).rd w hS) ⟨by omega, by omega⟩) rfl rfl (fun _ => rfl))) ?_ rfl rfl; rintro _ _ ⟨_, rfl, _, rfl⟩); refine R_take (T_decT rfl (by omega)) ?_ rfl rfl; refine R_nil ?_)
      exact hB _ _ _ _ _ rfl rfl fun w' hS => ⟨(), rfl, trivial, hS.sublist (List.nil_sublist _)⟩
    · obtain ⟨e1, e2⟩ := k2.2 hfv
      have hd : decide (V = V) = true := decide_eq_true rfl
      rw [e1, e2]
      focus (refine S_seq rfl ?_; refine S_region rfl rfl ?_; refine R_take (T_func rfl rfl) ?_ rfl rfl; refine R_p rfl ?_ rfl rfl; refine R_nil ?_; refine S_seq rfl ?_; refine S_block rfl ?_; refine S_seq rfl ?_; refine S_region rfl rfl ?_; refine R_take (T_loads (ds := [.slice A1 L1.length c1']) rfl rfl rfl rfl rfl) ?_ rfl rfl; (refine R_eff (E_rightRW (L := L1) (r := true) (A := A1) (m := L1.length) (c := c1') rfl (Srd.old h1 (fun k _ => noOwns k)) (by omega) hp1 hr) ?_ rfl rfl; rintro _ _ ⟨rfl, rfl⟩); refine R_take (T_not rfl) ?_ rfl rfl; refine R_p rfl ?_ rfl rfl; refine R_nil ?_; refine S_false rfl rfl ?_; refine S_seq rfl ?_; refine S_region rfl rfl ?_; refine R_take (T_loads (ds := [.slice A4 C.length c4]) rfl rfl rfl rfl rfl) ?_ rfl rfl; (refine R_eff (E_rightCW (L := C) (r := true) (A := A4) (m := C.length) (c := c4) rfl (Srd.old h4 (fun k _ => noOwns k)) (by omega) hp4 hrc) ?_ rfl rfl; rintro _ _ ⟨rfl, rfl⟩); refine R_take (T_not rfl) ?_ rfl rfl; refine R_p rfl ?_ rfl rfl; refine R_nil ?_; refine S_false rfl rfl ?_; refine S_skip rfl ?_; refine RS_blk ?_; refine S_seq rfl ?_; refine S_region rfl rfl ?_; refine R_take (T_loads (ds := [.slice A1 L1.length c1']) rfl rfl rfl rfl rfl) ?_ rfl rfl; refine R_take (T_loads (ds := [.slice A4 C.length c4]) rfl rfl rfl rfl rfl) ?_ rfl rfl; ((refine R_eff (E_hv1 (f := 33) ⟨_, Try.func33, rfl, by kernel_rfl⟩ (fun w hS => rapply_any w A1 A4 L1.length c1' C.length c4 L1 C ((Srd.old h1 (fun k _ => noOwns k)).rd w hS) ((Srd.old h4 (fun k _ => noOwns k)).rd w hS) (by omega) (by omega)) rfl rfl (fun _ => rfl)) ?_ rfl rfl; rintro _ _ ⟨⟨A10, c10⟩, rfl, _, rfl⟩); rw [hU]); (refine R_eff (E_alloca rfl mp_alloc) ?_ rfl rfl; rintro _ _ ⟨b11, rfl, rfl⟩); (refine R_eff0 (E_storew (ds := [.slice A10 S.length c10]) (cs := [.slice none 0 0]) rfl rfl rfl rfl (sl_one _ _ _) rfl) ?_ rfl; rintro _ _ rfl); refine R_nil ?_; refine S_seq rfl ?_; refine S_block rfl ?_; refine S_seq rfl ?_; refine S_region rfl rfl ?_; refine R_p rfl ?_ rfl rfl; refine R_take (T_load rfl rfl rfl rfl) ?_ rfl rfl; refine R_p rfl ?_ rfl rfl; refine R_take (T_decF rfl (by omega)) ?_ rfl rfl; refine R_p rfl ?_ rfl rfl; refine R_nil ?_; refine S_false rfl rfl ?_; refine S_seq rfl ?_; refine S_region rfl rfl ?_; refine R_take (T_loads (ds := [.slice A2 L2.length c2']) rfl rfl rfl rfl rfl) ?_ rfl rfl; (refine R_eff (E_rightRW (L := L2) (r := true) (A := A2) (m := L2.length) (c := c2') rfl (Srd.old h2 (fun k _ => noOwns k)) (by omega) hp2 hr2) ?_ rfl rfl; rintro _ _ ⟨rfl, rfl⟩); refine R_take (T_not rfl) ?_ rfl rfl; refine R_p rfl ?_ rfl rfl; refine R_nil ?_; refine S_false rfl rfl ?_; refine S_seq rfl ?_; refine S_region rfl rfl ?_; refine R_take (T_loads (ds := [.slice A1 L1.length c1']) rfl rfl rfl rfl rfl) ?_ rfl rfl; refine R_take (T_loads (ds := [.slice A2 L2.length c2']) rfl rfl rfl rfl rfl) ?_ rfl rfl; refine R_take (T_loads (ds := [.slice A10 S.length c10]) rfl rfl rfl rfl rfl) ?_ rfl rfl; ((refine R_eff (E_hv1 (f := 18) ⟨_, Try.func18, rfl, by kernel_rfl⟩ (fun w hS => rconflicts_any w A1 A2 A10 c1' c2' c10 L1 L2 S ((Srd.old h1 (fun k _ => noOwns k)).rd w hS) ((Srd.old h2 (fun k _ => noOwns k)).rd w hS) ((Srd.row (A := A10) (n := S.length) (c := c10)).rd w hS) (by omega) (by omega) (by omega)) rfl rfl (fun _ => rfl)) ?_ rfl rfl; rintro _ _ ⟨⟨A11, c11⟩, rfl, _, rfl⟩)); refine R_p rfl ?_ rfl rfl; refine R_take (T_decF rfl (by omega)) ?_ rfl rfl; refine R_p rfl ?_ rfl rfl; refine R_nil ?_; refine S_false rfl rfl ?_; refine S_skip rfl ?_; refine RS_blk ?_; refine S_seq rfl ?_; refine S_region rfl rfl ?_; refine R_take (T_loads (ds := [.slice A1 L1.length c1']) rfl rfl rfl rfl rfl) ?_ rfl rfl; refine R_take (T_loads (ds := [.slice A2 L2.length c2']) rfl rfl rfl rfl rfl) ?_ rfl rfl; refine R_take (T_loads (ds := [.slice A10 S.length c10]) rfl rfl rfl rfl rfl) ?_ rfl rfl; refine R_take (T_build0 ed_built0) ?_ rfl rfl; ((refine R_eff (E_hv1 (f := 19) ⟨_, Try.func19, rfl, by kernel_rfl⟩ (fun w hS => rmerge_any w A1 A2 A10 c1' c2' c10 L1 L2 S ((Srd.old h1 (fun k _ => noOwns k)).rd w hS) ((Srd.old h2 (fun k _ => noOwns k)).rd w hS) ((Srd.row (A := A10) (n := S.length) (c := c10)).rd w hS) (by omega) (by omega) (by omega) none 0 [] Rd.none_ (by decide)) rfl rfl (fun _ => rfl)) ?_ rfl rfl; rintro _ _ ⟨⟨A12, c12⟩, rfl, _, rfl⟩); rw [hW]); (refine R_eff (E_alloca rfl mp_alloc) ?_ rfl rfl; rintro _ _ ⟨b11, rfl, rfl⟩); (refine R_eff0 (E_storew (ds := [.slice A12 V.length c12]) (cs := [.slice none 0 0]) rfl rfl rfl rfl (sl_one _ _ _) rfl) ?_ rfl; rintro _ _ rfl); refine R_nil ?_; refine S_seq rfl ?_; refine S_seq rfl ?_; refine S_region rfl rfl ?_; refine R_p rfl ?_ rfl rfl; refine R_take (T_load rfl rfl rfl rfl) ?_ rfl rfl; refine R_p rfl ?_ rfl rfl; refine R_take (T_decF rfl (by omega)) ?_ rfl rfl; refine R_nil ?_; refine S_false rfl rfl ?_; refine S_skip rfl ?_; refine S_seq rfl ?_; refine S_region rfl rfl ?_; refine R_take (T_load rfl rfl rfl rfl) ?_ rfl rfl; refine R_take (T_decT rfl rfl) ?_ rfl rfl; refine R_p rfl ?_ rfl rfl; refine R_take (T_loads (ds := [.slice A9 V.length c9]) rfl rfl rfl rfl rfl) ?_ rfl rfl; refine R_take (T_loads (ds := [.slice A12 V.length c12]) rfl rfl rfl rfl rfl) ?_ rfl rfl; ((refine R_eff (E_hv0 (f := 20) ⟨_, Try.func20, rfl, by kernel_rfl⟩ (fun w hS => rSame_any w A9 A12 V.length c9 V.length c12 V V ((Srd.row (A := A9) (n := V.length) (c := c9)).rd w hS) ((Srd.row (A := A12) (n := V.length) (c := c12)).rd w hS) (by omega) (by omega)) rfl rfl (fun _ => rfl)) ?_ rfl rfl; rintro _ _ ⟨_, rfl, _, rfl⟩); rw [hd]); refine R_p rfl ?_ rfl rfl; refine R_p rfl ?_ rfl rfl; refine R_nil ?_)
      exact hB _ _ _ _ _ rfl rfl fun w' hS => ⟨(), rfl, trivial, hS.sublist (List.nil_sublist _)⟩
  · have hq0 : 0 < (rcnfs L1 L2 S).length := List.length_pos_iff.2 hq
    obtain ⟨e1, e2⟩ := k2.1 hq
    have e2 : R.length = 0 := by rw [e2]; rfl
    focus (refine S_seq rfl ?_; refine S_region rfl rfl ?_; refine R_take (T_func rfl rfl) ?_ rfl rfl; refine R_p rfl ?_ rfl rfl; refine R_nil ?_; refine S_seq rfl ?_; refine S_block rfl ?_; refine S_seq rfl ?_; refine S_region rfl rfl ?_; refine R_take (T_loads (ds := [.slice A1 L1.length c1']) rfl rfl rfl rfl rfl) ?_ rfl rfl; (refine R_eff (E_rightRW (L := L1) (r := true) (A := A1) (m := L1.length) (c := c1') rfl (Srd.old h1 (fun k _ => noOwns k)) (by omega) hp1 hr) ?_ rfl rfl; rintro _ _ ⟨rfl, rfl⟩); refine R_take (T_not rfl) ?_ rfl rfl; refine R_p rfl ?_ rfl rfl; refine R_nil ?_; refine S_false rfl rfl ?_; refine S_seq rfl ?_; refine S_region rfl rfl ?_; refine R_take (T_loads (ds := [.slice A4 C.length c4]) rfl rfl rfl rfl rfl) ?_ rfl rfl; (refine R_eff (E_rightCW (L := C) (r := true) (A := A4) (m := C.length) (c := c4) rfl (Srd.old h4 (fun k _ => noOwns k)) (by omega) hp4 hrc) ?_ rfl rfl; rintro _ _ ⟨rfl, rfl⟩); refine R_take (T_not rfl) ?_ rfl rfl; refine R_p rfl ?_ rfl rfl; refine R_nil ?_; refine S_false rfl rfl ?_; refine S_skip rfl ?_; refine RS_blk ?_; refine S_seq rfl ?_; refine S_region rfl rfl ?_; refine R_take (T_loads (ds := [.slice A1 L1.length c1']) rfl rfl rfl rfl rfl) ?_ rfl rfl; refine R_take (T_loads (ds := [.slice A4 C.length c4]) rfl rfl rfl rfl rfl) ?_ rfl rfl; ((refine R_eff (E_hv1 (f := 33) ⟨_, Try.func33, rfl, by kernel_rfl⟩ (fun w hS => rapply_any w A1 A4 L1.length c1' C.length c4 L1 C ((Srd.old h1 (fun k _ => noOwns k)).rd w hS) ((Srd.old h4 (fun k _ => noOwns k)).rd w hS) (by omega) (by omega)) rfl rfl (fun _ => rfl)) ?_ rfl rfl; rintro _ _ ⟨⟨A10, c10⟩, rfl, _, rfl⟩); rw [hU]); (refine R_eff (E_alloca rfl mp_alloc) ?_ rfl rfl; rintro _ _ ⟨b11, rfl, rfl⟩); (refine R_eff0 (E_storew (ds := [.slice A10 S.length c10]) (cs := [.slice none 0 0]) rfl rfl rfl rfl (sl_one _ _ _) rfl) ?_ rfl; rintro _ _ rfl); refine R_nil ?_; refine S_seq rfl ?_; refine S_block rfl ?_; refine S_seq rfl ?_; refine S_region rfl rfl ?_; refine R_p rfl ?_ rfl rfl; refine R_take (T_load rfl rfl rfl (by first | rfl | assumption)) ?_ rfl rfl; refine R_p rfl ?_ rfl rfl; refine R_take (T_decF rfl (by omega)) ?_ rfl rfl; refine R_p rfl ?_ rfl rfl; refine R_nil ?_; refine S_false rfl rfl ?_; refine S_seq rfl ?_; refine S_region rfl rfl ?_; refine R_take (T_loads (ds := [.slice A2 L2.length c2']) rfl rfl rfl rfl rfl) ?_ rfl rfl; (refine R_eff (E_rightRW (L := L2) (r := true) (A := A2) (m := L2.length) (c := c2') rfl (Srd.old h2 (fun k _ => noOwns k)) (by omega) hp2 hr2) ?_ rfl rfl; rintro _ _ ⟨rfl, rfl⟩); refine R_take (T_not rfl) ?_ rfl rfl; refine R_p rfl ?_ rfl rfl; refine R_nil ?_; refine S_false rfl rfl ?_; refine S_seq rfl ?_; refine S_region rfl rfl ?_; refine R_take (T_loads (ds := [.slice A1 L1.length c1']) rfl rfl rfl rfl rfl) ?_ rfl rfl; refine R_take (T_loads (ds := [.slice A2 L2.length c2']) rfl rfl rfl rfl rfl) ?_ rfl rfl; refine R_take (T_loads (ds := [.slice A10 S.length c10]) rfl rfl rfl rfl rfl) ?_ rfl rfl; ((refine R_eff (E_hv1 (f := 18) ⟨_, Try.func18, rfl, by kernel_rfl⟩ (fun w hS => rconflicts_any w A1 A2 A10 c1' c2' c10 L1 L2 S ((Srd.old h1 (fun k _ => noOwns k)).rd w hS) ((Srd.old h2 (fun k _ => noOwns k)).rd w hS) ((Srd.row (A := A10) (n := S.length) (c := c10)).rd w hS) (by omega) (by omega) (by omega)) rfl rfl (fun _ => rfl)) ?_ rfl rfl; rintro _ _ ⟨⟨A11, c11⟩, rfl, _, rfl⟩)); refine R_p rfl ?_ rfl rfl; refine R_take (T_decT rfl (by omega)) ?_ rfl rfl; refine R_take (T_decT rfl (by omega)) ?_ rfl rfl; refine R_nil ?_; refine S_true rfl rfl ?_; refine S_seq rfl ?_; refine S_region rfl rfl ?_; refine R_p rfl ?_ rfl rfl; (refine R_eff (E_cloA (cap := [.pointer (some ⟨b9, 0, none⟩), .pointer (some ⟨b8, 0, none⟩)]) rfl (E_hv0 (f := 31) ⟨_, Try.func31, rfl, by kernel_rfl⟩ (fun w hS => no2_any w 170 e b9 b8 A9 R.length c9 ((Srd.pt (g := b9) (n := 1) (ds := [zi e]) rfl (fun j u hj => by rw [Nat.zero_add]; exact hj)).rd w hS) ((Srd.pt (g := b8) (n := 1) (ds := [.slice A9 R.length c9]) rfl (fun j u hj => by rw [Nat.zero_add]; exact hj)).rd w hS) ⟨by omega, by omega⟩) rfl rfl (fun _ => rfl))) ?_ rfl rfl; rintro _ _ ⟨_, rfl, _, rfl⟩); refine R_take (T_decT rfl (by omega)) ?_ rfl rfl; refine R_nil ?_)
    exact hB _ _ _ _ _ rfl rfl fun w' hS => ⟨(), rfl, trivial, hS.sublist (List.nil_sublist _)⟩
set_option maxRecDepth 100000 in
theorem MergeRebases_open {H : Type} {enc : TypeId × Value → H} (W : World) {r : Reach} (base : Nat) (v0 v1 v2 : Value) {d0 d1 d2 : DataW H} {p0 p1 p2 : List MemPlace}
    (hv0 : Value.okWide Try.prog W r base 24 v0) (hv1 : Value.okWide Try.prog W r base 24 v1) (hv2 : Value.okWide Try.prog W r base 29 v2)
    (h0 : DataW.Trod enc Try.prog W 0 (fun _ => true) true 24 v0 d0 p0) (h1 : DataW.Trod enc Try.prog W 0 (fun _ => true) true 24 v1 d1 p1) (h2 : DataW.Trod enc Try.prog W 0 (fun _ => true) true 29 v2 d2 p2) :
    Calls Try.prog 7 #[v0, v1, v2] W fun e w' => e = .returned (.bool true) ∧ Kp All W w' := by
  obtain ⟨A, n, c, L, rfl, _, _, g⟩ := open_map hv0 h0
  obtain ⟨A2, n2, c2', L2, rfl, _, _, g2⟩ := open_map hv1 h1
  obtain ⟨A3, n3, c3', C, rfl, _, _, g3⟩ := open_edit hv2 h2
  have hl : L.length = n := by have := g.1; rw [cellsL_len rwc_len] at this; omega
  have hl2 : L2.length = n2 := by have := g2.1; rw [cellsL_len rwc_len] at this; omega
  have hl3 : C.length = n3 := by have := g3.1; rw [cellsL_len chc_len] at this; omega
  subst hl
  subst hl2
  subst hl3
  exact (rebases_any W A c L g A2 c2' L2 g2 A3 c3' C g3).pure7
end Go.Proofs.Ytghfjfgpiomdhaa
