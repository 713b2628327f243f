/- The statement PathmapApplies: what Apply makes of any map and any edit is the document's. -/
import Derived.Test.YtebbnbddlnpldaaPmI
namespace Go.Proofs.Ytebbnbddlnpldaa
open Go.RowKit Go.ChangeShapes Go.WideShapes Go.ChangeAt
open Asn (pt row rb)
set_option linter.unusedVariables false
set_option linter.unusedSimpArgs false
--@use N

theorem Gives.pure {P : Program} {f : FuncId} {vs : List Value} {w : World} {v : Value} {I : Unit → Prop} {A : Unit → List Asn} (h : Gives P f vs [] w (fun _ => v) I A) : Calls P f vs.toArray w fun e w' => e = .returned v ∧ Kp All w w' :=
  h.mono fun e w' ⟨_, he, _, hS⟩ => ⟨he, hS.kpO⟩
set_option maxRecDepth 100000 in
set_option maxHeartbeats 4000000 in
theorem applies_any (w : World) (A A2 : Option Addr) (n c n2 c2 : Nat) (L : List Rw) (C : List Ch) (h : Rd w All 2 A n (cellsL rwc L)) (h2 : Rd w All 3 A2 n2 (cellsL chc C)) :
    Gives Try.prog 3 [.agg #[.slice A n c], .agg #[.slice A2 n2 c2]] [] w (X := Unit) (fun _ => .bool true) (fun _ => True) (fun _ => []) := by
  refine gives_S Try.func3 rfl Try.ntmps3 Try.results3 (by simp) (St.enter w) (fun B hB => ?_)
  have hl : L.length = n := by have := h.1; rw [cellsL_len rwc_len] at this; omega
  have hl2 : C.length = n2 := by have := h2.1; rw [cellsL_len chc_len] at this; omega
  subst hl
  subst hl2
  focus (refine S_seq rfl ?_; refine S_region rfl rfl ?_; (refine R_eff (E_boxa (cs := [.slice A L.length c]) rfl) ?_ rfl rfl; rintro _ _ ⟨b2, rfl, rfl⟩); (refine R_eff (E_boxa (cs := [.slice A2 C.length c2]) rfl) ?_ rfl rfl; rintro _ _ ⟨b3, rfl, rfl⟩); refine R_p rfl ?_ rfl rfl; refine R_nil ?_; refine S_seq rfl ?_; refine S_seq rfl ?_; refine S_region rfl rfl ?_; (refine R_eff (E_gv0 (f := 9) ⟨_, Try.func9, rfl, by kernel_rfl⟩ rfl (fun w hS => wakes_any w) (fun _ => rfl)) ?_ rfl rfl; rintro _ _ ⟨_, rfl, _, rfl⟩); refine R_take (T_not rfl) ?_ rfl rfl; refine R_nil ?_; refine S_false rfl rfl ?_; refine S_skip rfl ?_; refine S_seq rfl ?_; refine S_seq rfl ?_; refine S_region rfl rfl ?_; refine R_take (T_loada (ds := [.slice A L.length c]) rfl rfl rfl rfl (fun j v h => by simpa using h)) ?_ rfl rfl; refine R_take (T_loada (ds := [.slice A2 C.length c2]) rfl rfl rfl rfl (fun j v h => by simpa using h)) ?_ rfl rfl; (refine R_eff (E_gv0 ⟨_, Try.func10, rfl, by kernel_rfl⟩ rfl (fun w' hS => large_any w' A A2 L.length c C.length c2 L C ((Srd.old h (fun k _ => noOwns k)).rd w' hS) ((Srd.old h2 (fun k _ => noOwns k)).rd w' hS)) (fun _ => rfl)) ?_ rfl rfl; rintro _ _ ⟨bg, rfl, hbg, rfl⟩; cases bg); refine R_nil ?_; refine S_false rfl rfl ?_; refine S_skip rfl ?_; refine S_seq rfl ?_; rotate_left; refine R_nil ?_; refine S_true rfl rfl ?_; refine S_seq rfl ?_; refine S_region rfl rfl ?_; refine R_p rfl ?_ rfl rfl; refine R_nil ?_; rotate_left)
  rotate_left
  · exact hB _ _ _ _ _ rfl rfl fun w' hS => ⟨(), rfl, trivial, hS.sublist (List.nil_sublist _)⟩
  obtain ⟨⟨hL1, hL2⟩, hC1, hC2⟩ := hbg rfl
  have hp : ∀ x ∈ L, x.1.length ≤ 100000 := fun x hx => by have := (hL2 x hx).1; omega
  have hp2 : ∀ x ∈ C, x.1.length ≤ 100000 := fun x hx => by have := (hC2 x hx).1; omega
  refine S_cut (X := Nat × Option Addr × Nat) (fun x => [(2, .pointer (some ⟨b2, 0, none⟩)), (3, .pointer (some ⟨b3, 0, none⟩)), (5, .pointer (some ⟨x.1, 0, none⟩)), (6, zi (appE L C))]) (fun x => [pt x.1 24 [.slice x.2.1 (appR L C).length x.2.2], row 56 2 x.2.1 (appR L C).length x.2.2 (cellsL rwc (appR L C)), pt b3 27 [.slice A2 C.length c2], pt b2 24 [.slice A L.length c]]) (fun _ => True) (fun J hJ => ?_) (fun x _ => ?_)
  · skip
    refine S_draw ([pt b3 27 [.slice A2 C.length c2], pt b2 24 [.slice A L.length c]]) sub_st (by kernel_rfl) rfl (by kernel_rfl) (by kernel_rfl : _ = 11) ?_
    refine D_take 0 rfl (T_loada (ds := [.slice A L.length c]) rfl rfl rfl rfl (fun j v h => by simpa using h)) ?_ rfl rfl (by kernel_rfl) (by kernel_rfl)
    refine D_take 2 rfl (T_loada (ds := [.slice A2 C.length c2]) rfl rfl rfl rfl (fun j v h => by simpa using h)) ?_ rfl rfl (by kernel_rfl) (by kernel_rfl)
    refine D_two 1 8 (by decide) rfl rfl (E_gv1 ⟨_, Try.func12, rfl, by kernel_rfl⟩ rfl (fun w' hS => copied_any w' A L.length c L ((Srd.old h (fun k _ => noOwns k)).rd w' hS) (by omega)) (fun _ => rfl)) (E_alloca rfl mp_alloc) ?_ ?_ rfl rfl rfl rfl (by kernel_rfl)
    · rintro _ _ ⟨⟨A3, c3⟩, rfl, _, rfl⟩
      refine Nx_same sub_st ?_
      refine D_two 3 8 (by decide) rfl rfl (E_gv1 ⟨_, Try.func13, rfl, by kernel_rfl⟩ rfl (fun w' hS => copiedEdit_any w' A2 C.length c2 C ((Srd.old h2 (fun k _ => noOwns k)).rd w' hS) (by omega)) (fun _ => rfl)) (E_alloca rfl mp_alloc) ?_ ?_ rfl rfl rfl rfl (by kernel_rfl)
      · rintro _ _ ⟨⟨A4, c4⟩, rfl, _, rfl⟩
        refine Nx_same sub_st ?_
        refine D_two 4 8 (by decide) rfl rfl (E_applyW (L := L) (C := C) (R := appR L C) (e := appE L C) (k := (appR L C).length) (m := L.length) (c := c3) (m2 := C.length) (c2 := c4) (A := A3) (A2 := A4) rfl rfl (Srd.row (n := L.length) (c := c3)) (Srd.row (n := C.length) (c := c4)) (by omega) (by omega) hp hp2 rfl rfl rfl) (E_alloca rfl mp_alloc) ?_ ?_ rfl rfl rfl rfl (by kernel_rfl)
        · rintro _ _ ⟨A', c', rfl, hne, rfl⟩
          refine Nx_same sub_st ?_
          refine D_take 5 rfl (pev_ok rfl) ?_ rfl rfl (by kernel_rfl) (by kernel_rfl)
          refine D_take 6 rfl (pev_ok rfl) ?_ rfl rfl (by kernel_rfl) (by kernel_rfl)
          refine D_take 7 rfl (pev_ok rfl) ?_ rfl rfl (by kernel_rfl) (by kernel_rfl)
          refine D_one 8 rfl (E_alloca rfl mp_alloc) ?_ rfl rfl (by kernel_rfl)
          rintro _ _ ⟨b5, rfl, rfl⟩
          refine Nx_same sub_st ?_
          refine D_one 9 rfl (E_storew (cs := [.slice none 0 0]) (ds := [.slice A' (appR L C).length c']) rfl rfl rfl rfl (sl_one _ _ _) rfl) ?_ rfl rfl (by kernel_rfl)
          rintro _ _ rfl
          refine Nx_same sub_st ?_
          refine D_take 10 rfl (pev_ok rfl) ?_ rfl rfl (by kernel_rfl) (by kernel_rfl)
          refine D_done ?_ (by kernel_rfl)
          exact hJ (b5, A', c') _ _ trivial (Sub.cons rfl (Sub.cons rfl (Sub.cons rfl (Sub.cons rfl Sub.nil)))) sub_st
        · rintro _ _ ⟨b5, rfl, rfl⟩
          refine Nx_same sub_st ?_
          refine D_one 4 rfl (E_applyW (L := L) (C := C) (R := appR L C) (e := appE L C) (k := (appR L C).length) (m := L.length) (c := c3) (m2 := C.length) (c2 := c4) (A := A3) (A2 := A4) rfl rfl (Srd.row (n := L.length) (c := c3)) (Srd.row (n := C.length) (c := c4)) (by omega) (by omega) hp hp2 rfl rfl rfl) ?_ rfl rfl (by kernel_rfl)
          rintro _ _ ⟨A', c', rfl, hne, rfl⟩
          refine Nx_same sub_st ?_
          refine D_take 5 rfl (pev_ok rfl) ?_ rfl rfl (by kernel_rfl) (by kernel_rfl)
          refine D_take 6 rfl (pev_ok rfl) ?_ rfl rfl (by kernel_rfl) (by kernel_rfl)
          refine D_take 7 rfl (pev_ok rfl) ?_ rfl rfl (by kernel_rfl) (by kernel_rfl)
          refine D_one 9 rfl (E_storew (cs := [.slice none 0 0]) (ds := [.slice A' (appR L C).length c']) rfl rfl rfl rfl (sl_one _ _ _) rfl) ?_ rfl rfl (by kernel_rfl)
          rintro _ _ rfl
          refine Nx_same sub_st ?_
          refine D_take 10 rfl (pev_ok rfl) ?_ rfl rfl (by kernel_rfl) (by kernel_rfl)
          refine D_done ?_ (by kernel_rfl)
          exact hJ (b5, A', c') _ _ trivial (Sub.cons rfl (Sub.cons rfl (Sub.cons rfl (Sub.cons rfl Sub.nil)))) sub_st
      · rintro _ _ ⟨b5, rfl, rfl⟩
        refine Nx_same sub_st ?_
        refine D_one 3 rfl (E_gv1 ⟨_, Try.func13, rfl, by kernel_rfl⟩ rfl (fun w' hS => copiedEdit_any w' A2 C.length c2 C ((Srd.old h2 (fun k _ => noOwns k)).rd w' hS) (by omega)) (fun _ => rfl)) ?_ rfl rfl (by kernel_rfl)
        rintro _ _ ⟨⟨A4, c4⟩, rfl, _, rfl⟩
        refine Nx_same sub_st ?_
        refine D_one 4 rfl (E_applyW (L := L) (C := C) (R := appR L C) (e := appE L C) (k := (appR L C).length) (m := L.length) (c := c3) (m2 := C.length) (c2 := c4) (A := A3) (A2 := A4) rfl rfl (Srd.row (n := L.length) (c := c3)) (Srd.row (n := C.length) (c := c4)) (by omega) (by omega) hp hp2 rfl rfl rfl) ?_ rfl rfl (by kernel_rfl)
        rintro _ _ ⟨A', c', rfl, hne, rfl⟩
        refine Nx_same sub_st ?_
        refine D_take 5 rfl (pev_ok rfl) ?_ rfl rfl (by kernel_rfl) (by kernel_rfl)
        refine D_take 6 rfl (pev_ok rfl) ?_ rfl rfl (by kernel_rfl) (by kernel_rfl)
        refine D_take 7 rfl (pev_ok rfl) ?_ rfl rfl (by kernel_rfl) (by kernel_rfl)
        refine D_one 9 rfl (E_storew (cs := [.slice none 0 0]) (ds := [.slice A' (appR L C).length c']) rfl rfl rfl rfl (sl_one _ _ _) rfl) ?_ rfl rfl (by kernel_rfl)
        rintro _ _ rfl
        refine Nx_same sub_st ?_
        refine D_take 10 rfl (pev_ok rfl) ?_ rfl rfl (by kernel_rfl) (by kernel_rfl)
        refine D_done ?_ (by kernel_rfl)
        exact hJ (b5, A', c') _ _ trivial (Sub.cons rfl (Sub.cons rfl (Sub.cons rfl (Sub.cons rfl Sub.nil)))) sub_st
    · rintro _ _ ⟨b5, rfl, rfl⟩
      refine Nx_same sub_st ?_
      refine D_one 1 rfl (E_gv1 ⟨_, Try.func12, rfl, by kernel_rfl⟩ rfl (fun w' hS => copied_any w' A L.length c L ((Srd.old h (fun k _ => noOwns k)).rd w' hS) (by omega)) (fun _ => rfl)) ?_ rfl rfl (by kernel_rfl)
      rintro _ _ ⟨⟨A3, c3⟩, rfl, _, rfl⟩
      refine Nx_same sub_st ?_
      refine D_one 3 rfl (E_gv1 ⟨_, Try.func13, rfl, by kernel_rfl⟩ rfl (fun w' hS => copiedEdit_any w' A2 C.length c2 C ((Srd.old h2 (fun k _ => noOwns k)).rd w' hS) (by omega)) (fun _ => rfl)) ?_ rfl rfl (by kernel_rfl)
      rintro _ _ ⟨⟨A4, c4⟩, rfl, _, rfl⟩
      refine Nx_same sub_st ?_
      refine D_one 4 rfl (E_applyW (L := L) (C := C) (R := appR L C) (e := appE L C) (k := (appR L C).length) (m := L.length) (c := c3) (m2 := C.length) (c2 := c4) (A := A3) (A2 := A4) rfl rfl (Srd.row (n := L.length) (c := c3)) (Srd.row (n := C.length) (c := c4)) (by omega) (by omega) hp hp2 rfl rfl rfl) ?_ rfl rfl (by kernel_rfl)
      rintro _ _ ⟨A', c', rfl, hne, rfl⟩
      refine Nx_same sub_st ?_
      refine D_take 5 rfl (pev_ok rfl) ?_ rfl rfl (by kernel_rfl) (by kernel_rfl)
      refine D_take 6 rfl (pev_ok rfl) ?_ rfl rfl (by kernel_rfl) (by kernel_rfl)
      refine D_take 7 rfl (pev_ok rfl) ?_ rfl rfl (by kernel_rfl) (by kernel_rfl)
      refine D_one 9 rfl (E_storew (cs := [.slice none 0 0]) (ds := [.slice A' (appR L C).length c']) rfl rfl rfl rfl (sl_one _ _ _) rfl) ?_ rfl rfl (by kernel_rfl)
      rintro _ _ rfl
      refine Nx_same sub_st ?_
      refine D_take 10 rfl (pev_ok rfl) ?_ rfl rfl (by kernel_rfl) (by kernel_rfl)
      refine D_done ?_ (by kernel_rfl)
      exact hJ (b5, A', c') _ _ trivial (Sub.cons rfl (Sub.cons rfl (Sub.cons rfl (Sub.cons rfl Sub.nil)))) sub_st
  obtain ⟨b5, A', c'⟩ := x
  dsimp only
  cases hr : chkR L
  · have e1 : appE L C = 150 := by rw [appE, hr]; rfl
    have e2 : appR L C = [] := by rw [appR, hr]; rfl
    rw [e1, e2]
    focus (refine S_seq rfl ?_; refine S_block rfl ?_; refine S_seq rfl ?_; refine S_region rfl rfl ?_; refine R_take (T_loada (ds := [.slice A L.length c]) rfl rfl rfl rfl (fun j v h => by simpa using h)) ?_ rfl rfl; (refine R_eff (E_rightRW (L := L) (r := false) rfl (Srd.old h (fun k _ => noOwns k)) (by omega) hp hr) ?_ rfl rfl; rintro _ _ ⟨rfl, rfl⟩); refine R_take (T_not rfl) ?_ rfl rfl; refine R_p rfl ?_ rfl rfl; refine R_nil ?_; refine S_true rfl rfl ?_; refine S_seq rfl ?_; refine S_region rfl rfl ?_; refine R_p rfl ?_ rfl rfl; refine R_take (T_load rfl rfl rfl (by first | rfl | assumption)) ?_ rfl rfl; refine R_p rfl ?_ rfl rfl; refine R_take (T_decT rfl (by decide)) ?_ rfl rfl; refine R_p rfl ?_ rfl rfl; refine R_p rfl ?_ rfl rfl; refine R_take (T_decT rfl (by decide)) ?_ rfl rfl; refine R_p rfl ?_ rfl rfl; refine R_p rfl ?_ rfl rfl; refine R_nil ?_)
    exact hB _ _ _ _ _ rfl rfl fun w' hS => ⟨(), rfl, trivial, hS.sublist (List.nil_sublist _)⟩
  cases hrc : chkC C
  · have e1 : appE L C = 151 := by rw [appE, hr, hrc]; rfl
    have e2 : appR L C = [] := by rw [appR, hr, hrc]; rfl
    rw [e1, e2]
    focus (refine S_seq rfl ?_; refine S_block rfl ?_; refine S_seq rfl ?_; refine S_region rfl rfl ?_; refine R_take (T_loada (ds := [.slice A L.length c]) rfl rfl rfl rfl (fun j v h => by simpa using h)) ?_ rfl rfl; (refine R_eff (E_rightRW (L := L) (r := true) rfl (Srd.old h (fun k _ => noOwns k)) (by omega) hp hr) ?_ rfl rfl; rintro _ _ ⟨rfl, rfl⟩); refine R_take (T_not rfl) ?_ rfl rfl; refine R_p rfl ?_ rfl rfl; refine R_nil ?_; refine S_false rfl rfl ?_; refine S_seq rfl ?_; refine S_region rfl rfl ?_; refine R_take (T_loada (ds := [.slice A2 C.length c2]) rfl rfl rfl rfl (fun j v h => by simpa using h)) ?_ rfl rfl; (refine R_eff (E_rightCW (L := C) (r := false) rfl (Srd.old h2 (fun k _ => noOwns k)) (by omega) hp2 hrc) ?_ rfl rfl; rintro _ _ ⟨rfl, rfl⟩); refine R_take (T_not rfl) ?_ rfl rfl; refine R_p rfl ?_ rfl rfl; refine R_nil ?_; refine S_true rfl rfl ?_; refine S_seq rfl ?_; refine S_region rfl rfl ?_; refine R_p rfl ?_ rfl rfl; refine R_take (T_load rfl rfl rfl (by first | rfl | assumption)) ?_ rfl rfl; refine R_p rfl ?_ rfl rfl; refine R_take (T_decT rfl (by decide)) ?_ rfl rfl; refine R_p rfl ?_ rfl rfl; refine R_p rfl ?_ rfl rfl; refine R_take (T_decT rfl (by decide)) ?_ rfl rfl; refine R_p rfl ?_ rfl rfl; refine R_p rfl ?_ rfl rfl; refine R_nil ?_)
    exact hB _ _ _ _ _ rfl rfl fun w' hS => ⟨(), rfl, trivial, hS.sublist (List.nil_sublist _)⟩
  have hu := app_res (chkR_srt hr).2.1 (chkC_srt hrc).2.1
  have hul := appU_len L C
  obtain ⟨U, hU⟩ : ∃ U, resA L C = U := ⟨_, rfl⟩
  rw [hU] at hu
  rw [hu] at hul
  rcases Nat.lt_or_ge 32 U.length with hfl | hfl
  · have e1 : appE L C = 6 := by rw [appE, hr, hrc, hu, if_pos rfl, if_pos rfl, if_neg (by omega)]
    have e2 : appR L C = [] := by rw [appR, hr, hrc, hu, if_pos rfl, if_pos rfl, if_neg (by omega)]
    rw [e1, e2]
    focus (refine S_seq rfl ?_; refine S_block rfl ?_; refine S_seq rfl ?_; refine S_region rfl rfl ?_; refine R_take (T_loada (ds := [.slice A L.length c]) rfl rfl rfl rfl (fun j v h => by simpa using h)) ?_ rfl rfl; (refine R_eff (E_rightRW (L := L) (r := true) rfl (Srd.old h (fun k _ => noOwns k)) (by omega) hp hr) ?_ rfl rfl; rintro _ _ ⟨rfl, rfl⟩); refine R_take (T_not rfl) ?_ rfl rfl; refine R_p rfl ?_ rfl rfl; refine R_nil ?_; refine S_false rfl rfl ?_; refine S_seq rfl ?_; refine S_region rfl rfl ?_; refine R_take (T_loada (ds := [.slice A2 C.length c2]) rfl rfl rfl rfl (fun j v h => by simpa using h)) ?_ rfl rfl; (refine R_eff (E_rightCW (L := C) (r := true) rfl (Srd.old h2 (fun k _ => noOwns k)) (by omega) hp2 hrc) ?_ rfl rfl; rintro _ _ ⟨rfl, rfl⟩); refine R_take (T_not rfl) ?_ rfl rfl; refine R_p rfl ?_ rfl rfl; refine R_nil ?_; refine S_false rfl rfl ?_; refine S_skip rfl ?_; refine RS_blk ?_; refine S_seq rfl ?_; refine S_region rfl rfl ?_; refine R_take (T_loada (ds := [.slice A L.length c]) rfl rfl rfl rfl (fun j v h => by simpa using h)) ?_ rfl rfl; refine R_take (T_loada (ds := [.slice A2 C.length c2]) rfl rfl rfl rfl (fun j v h => by simpa using h)) ?_ rfl rfl; (refine R_eff (E_gv1 ⟨_, Try.func16, rfl, by kernel_rfl⟩ rfl (fun w' hS => rapply_any w' A A2 L.length c C.length c2 L C ((Srd.old h (fun k _ => noOwns k)).rd w' hS) ((Srd.old h2 (fun k _ => noOwns k)).rd w' hS) (by omega) (by omega)) (fun _ => rfl)) ?_ rfl rfl; rintro _ _ ⟨⟨A8, c8⟩, rfl, _, rfl⟩; rw [hU]); (refine R_eff (E_alloca rfl mp_alloc) ?_ rfl rfl; rintro _ _ ⟨b7, rfl, rfl⟩); (refine R_eff0 (E_storew (ds := [.slice A8 U.length c8]) (cs := [.slice none 0 0]) rfl rfl rfl rfl (sl_one _ _ _) rfl) ?_ rfl; rintro _ _ rfl); refine R_nil ?_; refine S_seq rfl ?_; refine S_seq rfl ?_; refine S_region rfl rfl ?_; refine R_p rfl ?_ rfl rfl; refine R_take (T_load rfl rfl rfl (by first | rfl | assumption)) ?_ rfl rfl; refine R_p rfl ?_ rfl rfl; refine R_take (T_decT rfl (by first | decide | omega)) ?_ rfl rfl; refine R_nil ?_; refine S_true rfl rfl ?_; refine S_seq rfl ?_; refine S_region rfl rfl ?_; refine R_p rfl ?_ rfl rfl; refine R_take (T_load rfl rfl rfl (by first | rfl | assumption)) ?_ rfl rfl; refine R_p rfl ?_ rfl rfl; refine R_take (T_decT rfl (by first | decide | omega)) ?_ rfl rfl; refine R_take (T_decT rfl (by first | decide | omega)) ?_ rfl rfl; refine R_p rfl ?_ rfl rfl; refine R_take (T_decT rfl (by first | decide | omega)) ?_ rfl rfl; refine R_take (T_decT rfl (by first | decide | omega)) ?_ rfl rfl; refine R_take (T_decT rfl (by first | decide | omega)) ?_ rfl rfl; refine R_nil ?_)
    exact hB _ _ _ _ _ rfl rfl fun w' hS => ⟨(), rfl, trivial, hS.sublist (List.nil_sublist _)⟩
  · have e1 : appE L C = 0 := by rw [appE, hr, hrc, hu, if_pos rfl, if_pos rfl, if_pos (by omega)]
    have e2 : appR L C = U := by rw [appR, hr, hrc, hu, if_pos rfl, if_pos rfl, if_pos (by omega)]
    have hd : decide (U = U) = true := decide_eq_true rfl
    rw [e1, e2]
    focus (refine S_seq rfl ?_; refine S_block rfl ?_; refine S_seq rfl ?_; refine S_region rfl rfl ?_; refine R_take (T_loada (ds := [.slice A L.length c]) rfl rfl rfl rfl (fun j v h => by simpa using h)) ?_ rfl rfl; (refine R_eff (E_rightRW (L := L) (r := true) rfl (Srd.old h (fun k _ => noOwns k)) (by omega) hp hr) ?_ rfl rfl; rintro _ _ ⟨rfl, rfl⟩); refine R_take (T_not rfl) ?_ rfl rfl; refine R_p rfl ?_ rfl rfl; refine R_nil ?_; refine S_false rfl rfl ?_; refine S_seq rfl ?_; refine S_region rfl rfl ?_; refine R_take (T_loada (ds := [.slice A2 C.length c2]) rfl rfl rfl rfl (fun j v h => by simpa using h)) ?_ rfl rfl; (refine R_eff (E_rightCW (L := C) (r := true) rfl (Srd.old h2 (fun k _ => noOwns k)) (by omega) hp2 hrc) ?_ rfl rfl; rintro _ _ ⟨rfl, rfl⟩); refine R_take (T_not rfl) ?_ rfl rfl; refine R_p rfl ?_ rfl rfl; refine R_nil ?_; refine S_false rfl rfl ?_; refine S_skip rfl ?_; refine RS_blk ?_; refine S_seq rfl ?_; refine S_region rfl rfl ?_; refine R_take (T_loada (ds := [.slice A L.length c]) rfl rfl rfl rfl (fun j v h => by simpa using h)) ?_ rfl rfl; refine R_take (T_loada (ds := [.slice A2 C.length c2]) rfl rfl rfl rfl (fun j v h => by simpa using h)) ?_ rfl rfl; (refine R_eff (E_gv1 ⟨_, Try.func16, rfl, by kernel_rfl⟩ rfl (fun w' hS => rapply_any w' A A2 L.length c C.length c2 L C ((Srd.old h (fun k _ => noOwns k)).rd w' hS) ((Srd.old h2 (fun k _ => noOwns k)).rd w' hS) (by omega) (by omega)) (fun _ => rfl)) ?_ rfl rfl; rintro _ _ ⟨⟨A8, c8⟩, rfl, _, rfl⟩; rw [hU]); (refine R_eff (E_alloca rfl mp_alloc) ?_ rfl rfl; rintro _ _ ⟨b7, rfl, rfl⟩); (refine R_eff0 (E_storew (ds := [.slice A8 U.length c8]) (cs := [.slice none 0 0]) rfl rfl rfl rfl (sl_one _ _ _) rfl) ?_ rfl; rintro _ _ rfl); refine R_nil ?_; refine S_seq rfl ?_; refine S_seq rfl ?_; refine S_region rfl rfl ?_; refine R_p rfl ?_ rfl rfl; refine R_take (T_load rfl rfl rfl (by first | rfl | assumption)) ?_ rfl rfl; refine R_p rfl ?_ rfl rfl; refine R_take (T_decF rfl (by omega)) ?_ rfl rfl; refine R_nil ?_; refine S_false rfl rfl ?_; refine S_skip rfl ?_; refine S_seq rfl ?_; refine S_region rfl rfl ?_; refine R_p rfl ?_ rfl rfl; refine R_take (T_decT rfl (by first | decide | omega)) ?_ rfl rfl; refine R_take (T_decT rfl (by first | decide | omega)) ?_ rfl rfl; refine R_take (T_loada (ds := [.slice A' U.length c']) rfl rfl rfl rfl (fun j v h => by simpa using h)) ?_ rfl rfl; refine R_take (T_loada (ds := [.slice A8 U.length c8]) rfl rfl rfl rfl (fun j v h => by simpa using h)) ?_ rfl rfl; (refine R_eff (E_gv0 ⟨_, Try.func17, rfl, by kernel_rfl⟩ rfl (fun w' hS => rSame_any w' A' A8 U.length c' U.length c8 U U ((Srd.row (n := U.length) (c := c')).rd w' hS) ((Srd.row (n := U.length) (c := c8)).rd w' hS) (by omega) (by omega)) (fun _ => rfl)) ?_ rfl rfl; rintro _ _ ⟨_, rfl, _, rfl⟩; rw [hd]); refine R_take (T_decT rfl (by first | decide | omega)) ?_ rfl rfl; refine R_take (T_decT rfl (by first | decide | omega)) ?_ rfl rfl; refine R_nil ?_)
    exact hB _ _ _ _ _ rfl rfl fun w' hS => ⟨(), rfl, trivial, hS.sublist (List.nil_sublist _)⟩
set_option maxRecDepth 100000 in
theorem PathmapApplies_open {H : Type} {enc : TypeId × Value → H} (W : World) {r : Reach} (base : Nat) (v0 v1 : Value) {d0 d1 : DataW H} {p0 p1 : List MemPlace}
    (hv0 : Value.okWide Try.prog W r base 24 v0) (hv1 : Value.okWide Try.prog W r base 27 v1)
    (h0 : DataW.Trod enc Try.prog W 0 (fun _ => true) true 24 v0 d0 p0) (h1 : DataW.Trod enc Try.prog W 0 (fun _ => true) true 27 v1 d1 p1) :
    Calls Try.prog 3 #[v0, v1] W fun e w' => e = .returned (.bool true) ∧ Kp All W w' := by
  obtain ⟨A, n, c, L, rfl, _, _, g⟩ := open_map hv0 h0
  obtain ⟨A2, n2, c2', C, rfl, _, _, g2⟩ := open_edit hv1 h1
  exact (applies_any W A A2 n c n2 c2' L C g g2).pure
end Go.Proofs.Ytebbnbddlnpldaa
