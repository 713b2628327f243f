/- The statement PathmapDiffs: the difference of any two maps is the document's. -/
import Derived.Test.YtebbnbddlnpldaaPmO
import Derived.Test.YtebbnbddlnpldaaPmL
namespace Go.Proofs.Ytebbnbddlnpldaa
open Go.RowKit Go.ChangeShapes Go.WideShapes Go.ChangeAt
open Asn (pt row rb)
set_option linter.unusedVariables false
set_option linter.unusedSimpArgs false
--@use N

theorem rd_nil3 (w : World) : Rd w All 3 none 0 (cellsL chc []) := Rd.none_
theorem E_diffW {n : Nat} {w0 : World} {M0 : Nat → Prop} {T : Slots} {H : List Asn} {dd : Option Tmp} {tt : TypeId} {pos : String} {af : Array Edge} {g : Option (Nat × Bool)} {x y : Operand} {ts : Array TypeId} {A A2 : Option Addr} {m c m2 c2 : Nat} {L M : List Rw} (hx : oget T x = some (.agg #[.slice A m c])) (hy : oget T y = some (.agg #[.slice A2 m2 c2])) (hs : Srd w0 M0 H 2 A m (cellsL rwc L)) (hs2 : Srd w0 M0 H 2 A2 m2 (cellsL rwc M)) (hm : m ≤ 100000) (hm2 : m2 ≤ 100000) (hp : ∀ x ∈ L, x.1.length ≤ 100000) (hp2 : ∀ x ∈ M, x.1.length ≤ 100000) :
    Ef Try.prog n w0 M0 T H ⟨dd, .call ⟨.value (.func 23), #[x, y], ts⟩, tt, pos, af, g⟩ (fun u H' => ∃ A' c', u = .tuple #[.agg #[.slice A' (diffO L M).length c'], zi (diffE L M)] ∧ H' = row 42 3 A' (diffO L M).length c' (cellsL chc (diffO L M)) :: H) := by
  refine (E_gv1 ⟨_, Try.func23, rfl, by kernel_rfl⟩ (vs := [.agg #[.slice A m c], .agg #[.slice A2 m2 c2]]) (by simp [ogets, hx, hy]) (fun w hS => diff_any w A A2 m c m2 c2 L M (hs.rd w hS) (hs2.rd w hS) hm hm2 hp hp2) (fun _ => rfl)).mono ?_
  rintro v H' ⟨⟨A', c'⟩, rfl, _, rfl⟩ w hS
  exact ⟨_, _, rfl, ⟨A', c', rfl, rfl⟩, hS⟩
set_option maxRecDepth 100000 in
set_option maxHeartbeats 4000000 in
theorem diffs_any (w : World) (A A2 : Option Addr) (n c n2 c2 : Nat) (L M : List Rw) (h : Rd w All 2 A n (cellsL rwc L)) (h2 : Rd w All 2 A2 n2 (cellsL rwc M)) :
    Gives Try.prog 5 [.agg #[.slice A n c], .agg #[.slice A2 n2 c2]] [] w (X := Unit) (fun _ => .bool true) (fun _ => True) (fun _ => []) := by
  refine gives_S Try.func5 rfl Try.ntmps5 Try.results5 (by simp) (St.enter w) (fun B hB => ?_)
  have hl : L.length = n := by have := h.1; rw [cellsL_len rwc_len] at this; omega
  have hl2 : M.length = n2 := by have := h2.1; rw [cellsL_len rwc_len] at this; omega
  subst hl
  subst hl2
  focus (refine S_seq rfl ?_; refine S_region rfl rfl ?_; (refine R_eff (E_boxa (cs := [.slice A L.length c]) rfl) ?_ rfl rfl; rintro _ _ ⟨b2, rfl, rfl⟩); (refine R_eff (E_boxa (cs := [.slice A2 M.length c2]) rfl) ?_ rfl rfl; rintro _ _ ⟨b3, rfl, rfl⟩); refine R_p rfl ?_ rfl rfl; refine R_nil ?_; refine S_seq rfl ?_; refine S_seq rfl ?_; refine S_region rfl rfl ?_; (refine R_eff (E_gv0 (f := 9) ⟨_, Try.func9, rfl, by kernel_rfl⟩ rfl (fun w hS => wakes_any w) (fun _ => rfl)) ?_ rfl rfl; rintro _ _ ⟨_, rfl, _, rfl⟩); refine R_take (T_not rfl) ?_ rfl rfl; refine R_nil ?_; refine S_false rfl rfl ?_; refine S_skip rfl ?_; refine S_seq rfl ?_; refine S_seq rfl ?_; refine S_region rfl rfl ?_; refine R_take (T_loada (ds := [.slice A L.length c]) rfl rfl rfl rfl (fun j v h => by simpa using h)) ?_ rfl rfl; refine R_take (T_build0 ed_built0) ?_ rfl rfl; ((refine R_eff (E_hv0 (f := 10) ⟨_, Try.func10, rfl, by kernel_rfl⟩ (fun w hS => large_any w A none L.length c 0 0 L [] ((Srd.old h (fun k _ => noOwns k)).rd w hS) (rd_nil3 w)) rfl rfl (fun _ => rfl)) ?_ rfl rfl; rintro _ _ ⟨bg, rfl, hbg, rfl⟩); cases bg); refine R_p rfl ?_ rfl rfl; refine R_take (T_loada (ds := [.slice A2 M.length c2]) rfl rfl rfl rfl (fun j v h => by simpa using h)) ?_ rfl rfl; refine R_take (T_build0 ed_built0) ?_ rfl rfl; ((refine R_eff (E_hv0 (f := 10) ⟨_, Try.func10, rfl, by kernel_rfl⟩ (fun w hS => large_any w A2 none M.length c2 0 0 M [] ((Srd.old h2 (fun k _ => noOwns k)).rd w hS) (rd_nil3 w)) rfl rfl (fun _ => rfl)) ?_ rfl rfl; rintro _ _ ⟨bh, rfl, hbh, rfl⟩); cases bh); refine R_p rfl ?_ rfl rfl; refine R_nil ?_; refine S_false rfl rfl ?_; refine S_skip rfl ?_; refine S_seq rfl ?_; rotate_left; refine R_p rfl ?_ rfl rfl; refine R_nil ?_; refine S_true rfl rfl ?_; refine S_seq rfl ?_; refine S_region rfl rfl ?_; refine R_p rfl ?_ rfl rfl; refine R_nil ?_; rotate_left; refine R_p rfl ?_ rfl rfl; refine R_skip ?_ rfl rfl; refine R_skip ?_ rfl rfl; refine R_skip ?_ rfl rfl; refine R_p rfl ?_ rfl rfl; refine R_nil ?_; refine S_true rfl rfl ?_; refine S_seq rfl ?_; refine S_region rfl rfl ?_; refine R_p rfl ?_ rfl rfl; refine R_nil ?_; rotate_left)
  rotate_left
  · exact hB _ _ _ _ _ rfl rfl fun w' hS => ⟨(), rfl, trivial, hS.sublist (List.nil_sublist _)⟩
  · exact hB _ _ _ _ _ rfl rfl fun w' hS => ⟨(), rfl, trivial, hS.sublist (List.nil_sublist _)⟩
  obtain ⟨⟨hL1, hL2⟩, _⟩ := hbg rfl
  obtain ⟨⟨hM1, hM2⟩, _⟩ := hbh rfl
  have hp : ∀ x ∈ L, x.1.length ≤ 100000 := fun x hx => by have := (hL2 x hx).1; omega
  have hp2 : ∀ x ∈ M, x.1.length ≤ 100000 := fun x hx => by have := (hM2 x hx).1; omega
  refine S_cut (X := Nat × Option Addr × Nat) (fun x => [(2, .pointer (some ⟨b2, 0, none⟩)), (3, .pointer (some ⟨b3, 0, none⟩)), (5, .pointer (some ⟨x.1, 0, none⟩)), (6, zi (diffE L M))]) (fun x => [pt x.1 27 [.slice x.2.1 (diffO L M).length x.2.2], row 42 3 x.2.1 (diffO L M).length x.2.2 (cellsL chc (diffO L M)), pt b3 24 [.slice A2 M.length c2], pt b2 24 [.slice A L.length c]]) (fun _ => True) (fun J hJ => ?_) (fun x _ => ?_)
  · skip
    refine S_draw ([pt b3 24 [.slice A2 M.length c2], pt b2 24 [.slice A L.length c]]) sub_st (by kernel_rfl) rfl (by kernel_rfl) (by kernel_rfl : _ = 11) ?_
    refine D_take 0 rfl (T_loada (ds := [.slice A L.length c]) rfl rfl rfl rfl (fun j v h => by simpa using h)) ?_ rfl rfl (by kernel_rfl) (by kernel_rfl)
    refine D_take 2 rfl (T_loada (ds := [.slice A2 M.length c2]) rfl rfl rfl rfl (fun j v h => by simpa using h)) ?_ rfl rfl (by kernel_rfl) (by kernel_rfl)
    refine D_two 1 8 (by decide) rfl rfl (E_hv1 ⟨_, Try.func12, rfl, by kernel_rfl⟩ (fun w hS => copied_any w A L.length c L ((Srd.old h (fun k _ => noOwns k)).rd w hS) (by omega)) rfl rfl (fun _ => rfl)) (E_alloca rfl ed_alloc) ?_ ?_ rfl rfl rfl rfl (by kernel_rfl)
    · rintro _ _ ⟨⟨A3, c3⟩, rfl, _, rfl⟩
      refine Nx_same sub_st ?_
      refine D_two 3 8 (by decide) rfl rfl (E_hv1 ⟨_, Try.func12, rfl, by kernel_rfl⟩ (fun w hS => copied_any w A2 M.length c2 M ((Srd.old h2 (fun k _ => noOwns k)).rd w hS) (by omega)) rfl rfl (fun _ => rfl)) (E_alloca rfl ed_alloc) ?_ ?_ rfl rfl rfl rfl (by kernel_rfl)
      · rintro _ _ ⟨⟨A4, c4⟩, rfl, _, rfl⟩
        refine Nx_same sub_st ?_
        refine D_two 4 8 (by decide) rfl rfl (E_diffW (L := L) (M := M) (m := L.length) (c := c3) (m2 := M.length) (c2 := c4) (A := A3) (A2 := A4) rfl rfl (Srd.row (n := L.length) (c := c3)) (Srd.row (n := M.length) (c := c4)) (by omega) (by omega) hp hp2) (E_alloca rfl ed_alloc) ?_ ?_ rfl rfl rfl rfl (by kernel_rfl)
        · rintro _ _ ⟨A', c', rfl, rfl⟩
          refine Nx_same sub_st ?_
          refine D_take 5 rfl (pev_ok rfl) ?_ rfl rfl (by kernel_rfl) (by kernel_rfl)
          refine D_take 6 rfl (pev_ok rfl) ?_ rfl rfl (by kernel_rfl) (by kernel_rfl)
          refine D_take 7 rfl (pev_ok rfl) ?_ rfl rfl (by kernel_rfl) (by kernel_rfl)
          refine D_one 8 rfl (E_alloca rfl ed_alloc) ?_ rfl rfl (by kernel_rfl)
          rintro _ _ ⟨b5, rfl, rfl⟩
          refine Nx_same sub_st ?_
          refine D_one 9 rfl (E_storew (cs := [.slice none 0 0]) (ds := [.slice A' (diffO L M).length c']) rfl rfl rfl rfl (sl_one _ _ _) rfl) ?_ rfl rfl (by kernel_rfl)
          rintro _ _ rfl
          refine Nx_same sub_st ?_
          refine D_take 10 rfl (pev_ok rfl) ?_ rfl rfl (by kernel_rfl) (by kernel_rfl)
          refine D_done ?_ (by kernel_rfl)
          exact hJ (b5, A', c') _ _ trivial (Sub.cons rfl (Sub.cons rfl (Sub.cons rfl (Sub.cons rfl Sub.nil)))) sub_st
        · rintro _ _ ⟨b5, rfl, rfl⟩
          refine Nx_same sub_st ?_
          refine D_one 4 rfl (E_diffW (L := L) (M := M) (m := L.length) (c := c3) (m2 := M.length) (c2 := c4) (A := A3) (A2 := A4) rfl rfl (Srd.row (n := L.length) (c := c3)) (Srd.row (n := M.length) (c := c4)) (by omega) (by omega) hp hp2) ?_ rfl rfl (by kernel_rfl)
          rintro _ _ ⟨A', c', rfl, rfl⟩
          refine Nx_same sub_st ?_
          refine D_take 5 rfl (pev_ok rfl) ?_ rfl rfl (by kernel_rfl) (by kernel_rfl)
          refine D_take 6 rfl (pev_ok rfl) ?_ rfl rfl (by kernel_rfl) (by kernel_rfl)
          refine D_take 7 rfl (pev_ok rfl) ?_ rfl rfl (by kernel_rfl) (by kernel_rfl)
          refine D_one 9 rfl (E_storew (cs := [.slice none 0 0]) (ds := [.slice A' (diffO L M).length c']) rfl rfl rfl rfl (sl_one _ _ _) rfl) ?_ rfl rfl (by kernel_rfl)
          rintro _ _ rfl
          refine Nx_same sub_st ?_
          refine D_take 10 rfl (pev_ok rfl) ?_ rfl rfl (by kernel_rfl) (by kernel_rfl)
          refine D_done ?_ (by kernel_rfl)
          exact hJ (b5, A', c') _ _ trivial (Sub.cons rfl (Sub.cons rfl (Sub.cons rfl (Sub.cons rfl Sub.nil)))) sub_st
      · rintro _ _ ⟨b5, rfl, rfl⟩
        refine Nx_same sub_st ?_
        refine D_one 3 rfl (E_hv1 ⟨_, Try.func12, rfl, by kernel_rfl⟩ (fun w hS => copied_any w A2 M.length c2 M ((Srd.old h2 (fun k _ => noOwns k)).rd w hS) (by omega)) rfl rfl (fun _ => rfl)) ?_ rfl rfl (by kernel_rfl)
        rintro _ _ ⟨⟨A4, c4⟩, rfl, _, rfl⟩
        refine Nx_same sub_st ?_
        refine D_one 4 rfl (E_diffW (L := L) (M := M) (m := L.length) (c := c3) (m2 := M.length) (c2 := c4) (A := A3) (A2 := A4) rfl rfl (Srd.row (n := L.length) (c := c3)) (Srd.row (n := M.length) (c := c4)) (by omega) (by omega) hp hp2) ?_ rfl rfl (by kernel_rfl)
        rintro _ _ ⟨A', c', rfl, rfl⟩
        refine Nx_same sub_st ?_
        refine D_take 5 rfl (pev_ok rfl) ?_ rfl rfl (by kernel_rfl) (by kernel_rfl)
        refine D_take 6 rfl (pev_ok rfl) ?_ rfl rfl (by kernel_rfl) (by kernel_rfl)
        refine D_take 7 rfl (pev_ok rfl) ?_ rfl rfl (by kernel_rfl) (by kernel_rfl)
        refine D_one 9 rfl (E_storew (cs := [.slice none 0 0]) (ds := [.slice A' (diffO L M).length c']) rfl rfl rfl rfl (sl_one _ _ _) rfl) ?_ rfl rfl (by kernel_rfl)
        rintro _ _ rfl
        refine Nx_same sub_st ?_
        refine D_take 10 rfl (pev_ok rfl) ?_ rfl rfl (by kernel_rfl) (by kernel_rfl)
        refine D_done ?_ (by kernel_rfl)
        exact hJ (b5, A', c') _ _ trivial (Sub.cons rfl (Sub.cons rfl (Sub.cons rfl (Sub.cons rfl Sub.nil)))) sub_st
    · rintro _ _ ⟨b5, rfl, rfl⟩
      refine Nx_same sub_st ?_
      refine D_one 1 rfl (E_hv1 ⟨_, Try.func12, rfl, by kernel_rfl⟩ (fun w hS => copied_any w A L.length c L ((Srd.old h (fun k _ => noOwns k)).rd w hS) (by omega)) rfl rfl (fun _ => rfl)) ?_ rfl rfl (by kernel_rfl)
      rintro _ _ ⟨⟨A3, c3⟩, rfl, _, rfl⟩
      refine Nx_same sub_st ?_
      refine D_one 3 rfl (E_hv1 ⟨_, Try.func12, rfl, by kernel_rfl⟩ (fun w hS => copied_any w A2 M.length c2 M ((Srd.old h2 (fun k _ => noOwns k)).rd w hS) (by omega)) rfl rfl (fun _ => rfl)) ?_ rfl rfl (by kernel_rfl)
      rintro _ _ ⟨⟨A4, c4⟩, rfl, _, rfl⟩
      refine Nx_same sub_st ?_
      refine D_one 4 rfl (E_diffW (L := L) (M := M) (m := L.length) (c := c3) (m2 := M.length) (c2 := c4) (A := A3) (A2 := A4) rfl rfl (Srd.row (n := L.length) (c := c3)) (Srd.row (n := M.length) (c := c4)) (by omega) (by omega) hp hp2) ?_ rfl rfl (by kernel_rfl)
      rintro _ _ ⟨A', c', rfl, rfl⟩
      refine Nx_same sub_st ?_
      refine D_take 5 rfl (pev_ok rfl) ?_ rfl rfl (by kernel_rfl) (by kernel_rfl)
      refine D_take 6 rfl (pev_ok rfl) ?_ rfl rfl (by kernel_rfl) (by kernel_rfl)
      refine D_take 7 rfl (pev_ok rfl) ?_ rfl rfl (by kernel_rfl) (by kernel_rfl)
      refine D_one 9 rfl (E_storew (cs := [.slice none 0 0]) (ds := [.slice A' (diffO L M).length c']) rfl rfl rfl rfl (sl_one _ _ _) rfl) ?_ rfl rfl (by kernel_rfl)
      rintro _ _ rfl
      refine Nx_same sub_st ?_
      refine D_take 10 rfl (pev_ok rfl) ?_ rfl rfl (by kernel_rfl) (by kernel_rfl)
      refine D_done ?_ (by kernel_rfl)
      exact hJ (b5, A', c') _ _ trivial (Sub.cons rfl (Sub.cons rfl (Sub.cons rfl (Sub.cons rfl Sub.nil)))) sub_st
  obtain ⟨b5, A', c'⟩ := x
  dsimp only
  by_cases hrr : chkR L = true ∧ chkR M = true
  rotate_left
  · have e0 : (chkR L && chkR M) = false := by
      rw [Bool.eq_false_iff]; intro h; exact hrr (by simpa using h)
    have e1 : diffE L M = 150 := by rw [diffE, e0]; rfl
    have e2 : diffO L M = [] := by rw [diffO, e0]; rfl
    rw [e1, e2]
    cases hr : chkR L
    · --
      focus (refine S_seq rfl ?_; refine S_seq rfl ?_; refine S_region rfl rfl ?_; refine R_take (T_loada (ds := [.slice A L.length c]) rfl rfl rfl rfl (fun j v h => by simpa using h)) ?_ rfl rfl; (refine R_eff (E_rightRW (L := L) (A := A) (m := L.length) (c := c) (r := false) rfl (Srd.old h (fun k _ => noOwns k)) (by omega) hp hr) ?_ rfl rfl; rintro _ _ ⟨rfl, rfl⟩); refine R_take (T_not rfl) ?_ rfl rfl; refine R_p rfl ?_ rfl rfl; refine R_skip ?_ rfl rfl; refine R_skip ?_ rfl rfl; refine R_skip ?_ rfl rfl; refine R_p rfl ?_ rfl rfl; refine R_nil ?_; refine S_true rfl rfl ?_; refine S_seq rfl ?_; refine S_region rfl rfl ?_; refine R_p rfl ?_ rfl rfl; refine R_take (T_load rfl rfl rfl (by first | rfl | assumption)) ?_ rfl rfl; refine R_p rfl ?_ rfl rfl; refine R_take (T_decT rfl (by decide)) ?_ rfl rfl; refine R_p rfl ?_ rfl rfl; refine R_p rfl ?_ rfl rfl; refine R_take (T_decT rfl (by decide)) ?_ rfl rfl; refine R_p rfl ?_ rfl rfl; refine R_p rfl ?_ rfl rfl; refine R_nil ?_)
      exact hB _ _ _ _ _ rfl rfl fun w' hS => ⟨(), rfl, trivial, hS.sublist (List.nil_sublist _)⟩
    · have hrm : chkR M = false := by
        rw [Bool.eq_false_iff]; intro h; exact hrr ⟨hr, h⟩
      focus (refine S_seq rfl ?_; refine S_seq rfl ?_; refine S_region rfl rfl ?_; refine R_take (T_loada (ds := [.slice A L.length c]) rfl rfl rfl rfl (fun j v h => by simpa using h)) ?_ rfl rfl; (refine R_eff (E_rightRW (L := L) (A := A) (m := L.length) (c := c) (r := true) rfl (Srd.old h (fun k _ => noOwns k)) (by omega) hp hr) ?_ rfl rfl; rintro _ _ ⟨rfl, rfl⟩); refine R_take (T_not rfl) ?_ rfl rfl; refine R_p rfl ?_ rfl rfl; refine R_take (T_loada (ds := [.slice A2 M.length c2]) rfl rfl rfl rfl (fun j v h => by simpa using h)) ?_ rfl rfl; (refine R_eff (E_rightRW (L := M) (A := A2) (m := M.length) (c := c2) (r := false) rfl (Srd.old h2 (fun k _ => noOwns k)) (by omega) hp2 hrm) ?_ rfl rfl; rintro _ _ ⟨rfl, rfl⟩); refine R_take (T_not rfl) ?_ rfl rfl; refine R_p rfl ?_ rfl rfl; refine R_nil ?_; refine S_true rfl rfl ?_; refine S_seq rfl ?_; refine S_region rfl rfl ?_; refine R_p rfl ?_ rfl rfl; refine R_take (T_load rfl rfl rfl (by first | rfl | assumption)) ?_ rfl rfl; refine R_p rfl ?_ rfl rfl; refine R_take (T_decT rfl (by decide)) ?_ rfl rfl; refine R_p rfl ?_ rfl rfl; refine R_p rfl ?_ rfl rfl; refine R_take (T_decT rfl (by decide)) ?_ rfl rfl; refine R_p rfl ?_ rfl rfl; refine R_p rfl ?_ rfl rfl; refine R_nil ?_)
      exact hB _ _ _ _ _ rfl rfl fun w' hS => ⟨(), rfl, trivial, hS.sublist (List.nil_sublist _)⟩
  obtain ⟨hr, hrm⟩ := hrr
  have e0 : (chkR L && chkR M) = true := by rw [hr, hrm]; rfl
  have hu := diff_res (chkR_srt hr).2.1 (chkR_srt hrm).2.1
  have hul := diffU_len L M
  obtain ⟨U, hU⟩ : ∃ U, diffR L M = U := ⟨_, rfl⟩
  rw [hU] at hu
  rw [hu] at hul
  have hd : decide (U = U) = true := decide_eq_true rfl
  rcases Nat.lt_or_ge 32 U.length with hfl | hfl
  · have e1 : diffE L M = 151 := by rw [diffE, e0, hu, if_pos rfl, if_neg (by omega)]
    have e2 : diffO L M = [] := by rw [diffO, e0, hu, if_pos rfl, if_neg (by omega)]
    rw [e1, e2]
    focus (refine S_seq rfl ?_; refine S_seq rfl ?_; refine S_region rfl rfl ?_; refine R_take (T_loada (ds := [.slice A L.length c]) rfl rfl rfl rfl (fun j v h => by simpa using h)) ?_ rfl rfl; (refine R_eff (E_rightRW (L := L) (A := A) (m := L.length) (c := c) (r := true) rfl (Srd.old h (fun k _ => noOwns k)) (by omega) hp hr) ?_ rfl rfl; rintro _ _ ⟨rfl, rfl⟩); refine R_take (T_not rfl) ?_ rfl rfl; refine R_p rfl ?_ rfl rfl; refine R_take (T_loada (ds := [.slice A2 M.length c2]) rfl rfl rfl rfl (fun j v h => by simpa using h)) ?_ rfl rfl; (refine R_eff (E_rightRW (L := M) (A := A2) (m := M.length) (c := c2) (r := true) rfl (Srd.old h2 (fun k _ => noOwns k)) (by omega) hp2 hrm) ?_ rfl rfl; rintro _ _ ⟨rfl, rfl⟩); refine R_take (T_not rfl) ?_ rfl rfl; refine R_p rfl ?_ rfl rfl; refine R_nil ?_; refine S_false rfl rfl ?_; refine S_skip rfl ?_; refine S_seq rfl ?_; refine S_region rfl rfl ?_; refine R_take (T_loada (ds := [.slice A L.length c]) rfl rfl rfl rfl (fun j v h => by simpa using h)) ?_ rfl rfl; refine R_take (T_loada (ds := [.slice A2 M.length c2]) rfl rfl rfl rfl (fun j v h => by simpa using h)) ?_ rfl rfl; ((refine R_eff (E_hv1 (f := 24) ⟨_, Try.func24, rfl, by kernel_rfl⟩ (fun w hS => rdiff_any w A A2 L.length c M.length c2 L M ((Srd.old h (fun k _ => noOwns k)).rd w hS) ((Srd.old h2 (fun k _ => noOwns k)).rd w hS) (by omega) (by omega)) rfl rfl (fun _ => rfl)) ?_ rfl rfl; rintro _ _ ⟨⟨A8, c8⟩, rfl, _, rfl⟩); rw [hU]); (refine R_eff (E_alloca rfl ed_alloc) ?_ rfl rfl; rintro _ _ ⟨b7, rfl, rfl⟩); (refine R_eff0 (E_storew (ds := [.slice A8 U.length c8]) (cs := [.slice none 0 0]) rfl rfl rfl rfl (sl_one _ _ _) rfl) ?_ rfl; rintro _ _ rfl); refine R_nil ?_; refine S_seq rfl ?_; refine S_seq rfl ?_; refine S_region rfl rfl ?_; refine R_p rfl ?_ rfl rfl; refine R_take (T_load rfl rfl rfl (by first | rfl | assumption)) ?_ rfl rfl; refine R_p rfl ?_ rfl rfl; refine R_take (T_decT rfl (by first | decide | omega)) ?_ rfl rfl; refine R_nil ?_; refine S_true rfl rfl ?_; refine S_seq rfl ?_; refine S_region rfl rfl ?_; refine R_p rfl ?_ rfl rfl; refine R_take (T_load rfl rfl rfl (by first | rfl | assumption)) ?_ rfl rfl; refine R_p rfl ?_ rfl rfl; refine R_take (T_decT rfl (by first | decide | omega)) ?_ rfl rfl; refine R_take (T_decT rfl (by first | decide | omega)) ?_ rfl rfl; refine R_p rfl ?_ rfl rfl; refine R_take (T_decT rfl (by first | decide | omega)) ?_ rfl rfl; refine R_take (T_decT rfl (by first | decide | omega)) ?_ rfl rfl; refine R_take (T_decT rfl (by first | decide | omega)) ?_ rfl rfl; refine R_nil ?_)
    exact hB _ _ _ _ _ rfl rfl fun w' hS => ⟨(), rfl, trivial, hS.sublist (List.nil_sublist _)⟩
  · have e1 : diffE L M = 0 := by rw [diffE, e0, hu, if_pos rfl, if_pos (by omega)]
    have e2 : diffO L M = U := by rw [diffO, e0, hu, if_pos rfl, if_pos (by omega)]
    rw [e1, e2]
    focus (refine S_seq rfl ?_; refine S_seq rfl ?_; refine S_region rfl rfl ?_; refine R_take (T_loada (ds := [.slice A L.length c]) rfl rfl rfl rfl (fun j v h => by simpa using h)) ?_ rfl rfl; (refine R_eff (E_rightRW (L := L) (A := A) (m := L.length) (c := c) (r := true) rfl (Srd.old h (fun k _ => noOwns k)) (by omega) hp hr) ?_ rfl rfl; rintro _ _ ⟨rfl, rfl⟩); refine R_take (T_not rfl) ?_ rfl rfl; refine R_p rfl ?_ rfl rfl; refine R_take (T_loada (ds := [.slice A2 M.length c2]) rfl rfl rfl rfl (fun j v h => by simpa using h)) ?_ rfl rfl; (refine R_eff (E_rightRW (L := M) (A := A2) (m := M.length) (c := c2) (r := true) rfl (Srd.old h2 (fun k _ => noOwns k)) (by omega) hp2 hrm) ?_ rfl rfl; rintro _ _ ⟨rfl, rfl⟩); refine R_take (T_not rfl) ?_ rfl rfl; refine R_p rfl ?_ rfl rfl; refine R_nil ?_; refine S_false rfl rfl ?_; refine S_skip rfl ?_; refine S_seq rfl ?_; refine S_region rfl rfl ?_; refine R_take (T_loada (ds := [.slice A L.length c]) rfl rfl rfl rfl (fun j v h => by simpa using h)) ?_ rfl rfl; refine R_take (T_loada (ds := [.slice A2 M.length c2]) rfl rfl rfl rfl (fun j v h => by simpa using h)) ?_ rfl rfl; ((refine R_eff (E_hv1 (f := 24) ⟨_, Try.func24, rfl, by kernel_rfl⟩ (fun w hS => rdiff_any w A A2 L.length c M.length c2 L M ((Srd.old h (fun k _ => noOwns k)).rd w hS) ((Srd.old h2 (fun k _ => noOwns k)).rd w hS) (by omega) (by omega)) rfl rfl (fun _ => rfl)) ?_ rfl rfl; rintro _ _ ⟨⟨A8, c8⟩, rfl, _, rfl⟩); rw [hU]); (refine R_eff (E_alloca rfl ed_alloc) ?_ rfl rfl; rintro _ _ ⟨b7, rfl, rfl⟩); (refine R_eff0 (E_storew (ds := [.slice A8 U.length c8]) (cs := [.slice none 0 0]) rfl rfl rfl rfl (sl_one _ _ _) rfl) ?_ rfl; rintro _ _ rfl); refine R_nil ?_; refine S_seq rfl ?_; refine S_seq rfl ?_; refine S_region rfl rfl ?_; refine R_p rfl ?_ rfl rfl; refine R_take (T_load rfl rfl rfl (by first | rfl | assumption)) ?_ rfl rfl; refine R_p rfl ?_ rfl rfl; refine R_take (T_decF rfl (by omega)) ?_ rfl rfl; refine R_nil ?_; refine S_false rfl rfl ?_; refine S_skip rfl ?_; refine S_seq rfl ?_; refine S_region rfl rfl ?_; refine R_p rfl ?_ rfl rfl; refine R_take (T_decT rfl (by first | decide | omega)) ?_ rfl rfl; refine R_take (T_decT rfl (by first | decide | omega)) ?_ rfl rfl; refine R_take (T_loada (ds := [.slice A' U.length c']) rfl rfl rfl rfl (fun j v h => by simpa using h)) ?_ rfl rfl; refine R_take (T_loada (ds := [.slice A8 U.length c8]) rfl rfl rfl rfl (fun j v h => by simpa using h)) ?_ rfl rfl; (refine R_eff (E_hv0 (f := 22) ⟨_, Try.func22, rfl, by kernel_rfl⟩ (fun w hS => rSameEdit_any w A' A8 U.length c' U.length c8 U U ((Srd.row (n := U.length) (c := c')).rd w hS) ((Srd.row (n := U.length) (c := c8)).rd w hS) (by omega) (by omega)) rfl rfl (fun _ => rfl)) ?_ rfl rfl; rintro _ _ ⟨_, rfl, _, rfl⟩; rw [hd]); refine R_take (T_decT rfl (by first | decide | omega)) ?_ rfl rfl; refine R_take (T_decT rfl (by first | decide | omega)) ?_ rfl rfl; refine R_nil ?_)
    exact hB _ _ _ _ _ rfl rfl fun w' hS => ⟨(), rfl, trivial, hS.sublist (List.nil_sublist _)⟩
set_option maxRecDepth 100000 in
theorem PathmapDiffs_open {H : Type} {enc : TypeId × Value → H} (W : World) {r : Reach} (base : Nat) (v0 v1 : Value) {d0 d1 : DataW H} {p0 p1 : List MemPlace}
    (hv0 : Value.okWide Try.prog W r base 24 v0) (hv1 : Value.okWide Try.prog W r base 24 v1)
    (h0 : DataW.Trod enc Try.prog W 0 (fun _ => true) true 24 v0 d0 p0) (h1 : DataW.Trod enc Try.prog W 0 (fun _ => true) true 24 v1 d1 p1) :
    Calls Try.prog 5 #[v0, v1] W fun e W' => e = .returned (.bool true) ∧ Kp All W W' := by
  obtain ⟨A, n, c, L, rfl, _, _, g⟩ := open_map hv0 h0
  obtain ⟨A2, n2, c2', M, rfl, _, _, g2⟩ := open_map hv1 h1
  exact (diffs_any W A A2 n c n2 c2' L M g g2).pure
end Go.Proofs.Ytebbnbddlnpldaa
