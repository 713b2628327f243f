/- Messages: the statement FrameSame. -/
import Derived.Test.YtdbehejbeioboaaDoorFrI
namespace Go.Proofs.YtdbehejbeioboaaDoor
open Go.RowKit Go.ChangeShapes Go.WideShapes Go.ChangeAt
open Asn (pt row rb)
set_option linter.unusedVariables false
set_option linter.unusedSimpArgs false
--@use N

set_option maxRecDepth 100000 in
set_option maxHeartbeats 4000000 in
theorem same_walk (w : World) (hrt : Roots w) (x : Ms) (p : Mp) (h : MsR w x p) (y : Ms) (q : Mp) (h2 : MsR w y q) :
    Gives Tryd.prog 5 [.agg (mgc x p).toArray, .agg (mgc y q).toArray] [] w (X := Unit) (fun _ => .bool true) (fun _ => True) (fun _ => []) := by
  refine gives_S Tryd.func5 rfl Tryd.ntmps5 Tryd.results5 (by simp) (St.enter w) (fun B hB => ?_)
  focus (refine S_seq rfl ?_; refine S_region rfl rfl ?_; (refine R_eff (E_boxa (cs := mgc x p) rfl) ?_ rfl rfl; rintro _ _ ⟨b2, rfl, rfl⟩); (refine R_eff (E_boxa (cs := mgc y q) rfl) ?_ rfl rfl; rintro _ _ ⟨b3, rfl, rfl⟩); refine R_p rfl ?_ rfl rfl; refine R_nil ?_; refine S_seq rfl ?_; refine S_seq rfl (S_region rfl rfl ?_); (refine R_eff (E_hv0 (f := 9) ⟨_, Tryd.func9, rfl, by kernel_rfl⟩ (fun w hS => wakes13_any w (hrt.kp hS.kp (noOwns 0))) rfl rfl (fun _ => rfl)) ?_ rfl rfl; rintro _ _ ⟨_, rfl, _, rfl⟩); refine R_take (T_not rfl) ?_ rfl rfl; refine R_nil ?_; refine S_false rfl rfl ?_; refine S_skip rfl ?_; refine S_seq rfl ?_; refine S_seq rfl (S_region rfl rfl ?_); refine R_take (T_loads (ds := mgc x p) rfl rfl rfl rfl rfl) ?_ rfl rfl; (refine R_eff (E_hv0 (f := 10) ⟨_, Tryd.func10, rfl, by kernel_rfl⟩ (fun w hS => largeM_any w x p (h.keep hS.kpO)) rfl rfl (fun _ => rfl)) ?_ rfl rfl; rintro _ _ ⟨lg, rfl, hlg, rfl⟩); refine R_p rfl ?_ rfl rfl)
  cases lg
  case true =>
    focus ((iterate 2 refine R_skip ?_ rfl rfl); refine R_take (T_decT rfl (by omega)) ?_ rfl rfl; refine R_nil ?_; refine S_true rfl rfl ?_; refine S_seq rfl (S_region rfl rfl ?_); refine R_take (T_decT rfl (by omega)) ?_ rfl rfl; refine R_nil ?_)
    exact hB _ _ _ _ _ rfl rfl fun w' hS => ⟨(), rfl, trivial, hS.sublist (List.nil_sublist _)⟩
  focus (refine R_take (T_loads (ds := mgc y q) rfl rfl rfl rfl rfl) ?_ rfl rfl; (refine R_eff (E_hv0 (f := 10) ⟨_, Tryd.func10, rfl, by kernel_rfl⟩ (fun w hS => largeM_any w y q (h2.keep hS.kpO)) rfl rfl (fun _ => rfl)) ?_ rfl rfl; rintro _ _ ⟨lg2, rfl, hlg2, rfl⟩); refine R_p rfl ?_ rfl rfl; refine R_nil ?_)
  cases lg2
  case true =>
    focus (refine S_true rfl rfl ?_; refine S_seq rfl (S_region rfl rfl ?_); refine R_take (T_decT rfl (by omega)) ?_ rfl rfl; refine R_nil ?_)
    exact hB _ _ _ _ _ rfl rfl fun w' hS => ⟨(), rfl, trivial, hS.sublist (List.nil_sublist _)⟩
  obtain ⟨hn, hcn, hdn, hk1⟩ := hlg rfl
  obtain ⟨hn2, hcn2, hdn2, hk2⟩ := hlg2 rfl
  obtain ⟨r, hr⟩ : ∃ r, (eqL x y).all id = r := ⟨_, rfl⟩
  focus (refine S_false rfl rfl ?_; refine S_skip rfl ?_; refine S_seq rfl ?_)
  refine S_draw ([pt b2 31 (mgc x p), pt b3 31 (mgc y q)]) sub_st (by kernel_rfl) rfl (by kernel_rfl) (by kernel_rfl : _ = 14) ?_
  refine D_take 0 rfl (T_loads (ds := mgc x p) rfl rfl rfl rfl rfl) ?_ rfl rfl (by kernel_rfl) (by kernel_rfl)
  refine D_take 1 rfl (T_loads (ds := mgc y q) rfl rfl rfl rfl rfl) ?_ rfl rfl (by kernel_rfl) (by kernel_rfl)
  refine D_take 3 rfl (T_loads (ds := mgc x p) rfl rfl rfl rfl rfl) ?_ rfl rfl (by kernel_rfl) (by kernel_rfl)
  refine D_take 4 rfl (T_loads (ds := mgc y q) rfl rfl rfl rfl rfl) ?_ rfl rfl (by kernel_rfl) (by kernel_rfl)
  refine D_one 2 rfl (E_hv0 (f := 20) ⟨_, Tryd.func20, rfl, by kernel_rfl⟩ (fun w hS => sameM_k w x p (h.keep hS.kpO) y q (h2.keep hS.kpO) (by omega) (by omega) (by omega) (by omega) _ hr) rfl rfl (fun _ => rfl)) ?_ rfl rfl (by kernel_rfl)
  rintro _ _ ⟨_, rfl, _, rfl⟩
  refine Nx_same sub_st ?_
  refine D_one 5 rfl (E_hv0 (f := 19) ⟨_, Tryd.func19, rfl, by kernel_rfl⟩ (fun w hS => sameMD_k w x p (h.keep hS.kpO) y q (h2.keep hS.kpO) _ hr) rfl rfl (fun _ => rfl)) ?_ rfl rfl (by kernel_rfl)
  rintro _ _ ⟨_, rfl, _, rfl⟩
  refine Nx_same sub_st ?_
  (refine D_take 6 rfl (T_beqE (b := r) (c := r) (r := true) rfl rfl rfl rfl (by cases r <;> rfl)) ?_ rfl rfl (by kernel_rfl) (by kernel_rfl))
  refine D_take 7 rfl (T_decT rfl (by omega)) ?_ rfl rfl (by kernel_rfl) (by kernel_rfl)
  refine D_take 8 rfl (T_loads (ds := mgc x p) rfl rfl rfl rfl rfl) ?_ rfl rfl (by kernel_rfl) (by kernel_rfl)
  refine D_take 9 rfl (T_loads (ds := mgc x p) rfl rfl rfl rfl rfl) ?_ rfl rfl (by kernel_rfl) (by kernel_rfl)
  refine D_one 10 rfl (E_hvG (f := 12) ⟨_, Tryd.func12, rfl, by kernel_rfl⟩ (fun w hS => copyM_any w x p (h.keep hS.kpO) (by omega) (by omega) (by omega) (fun m hm => Nat.le_trans (hk1 m hm) (by decide))) rfl rfl) ?_ rfl rfl (by kernel_rfl)
  rintro _ _ ⟨⟨q1, hw1, hq1, hc1⟩, rfl, _, rfl⟩; dsimp only [List.cons_append, List.nil_append]
  refine Nx_same sub_st ?_
  refine D_one 11 rfl (E_hv0 (f := 20) ⟨_, Tryd.func20, rfl, by kernel_rfl⟩ (fun w hS => sameM_k w x p (h.keep hS.kpO) x q1 (own_msr hS (by simp) (by simp) (by simp) (by simp) hw1) (by omega) (by omega) (by omega) (by omega) _ (eqL_rfl _)) rfl rfl (fun _ => rfl)) ?_ rfl rfl (by kernel_rfl)
  rintro _ _ ⟨_, rfl, _, rfl⟩
  refine Nx_same sub_st ?_
  refine D_take 12 rfl (T_decT rfl (by omega)) ?_ rfl rfl (by kernel_rfl) (by kernel_rfl)
  refine D_take 13 rfl (T_decT rfl (by omega)) ?_ rfl rfl (by kernel_rfl) (by kernel_rfl)
  refine D_done ?_ (by kernel_rfl)
  (skip; exact hB _ _ _ _ _ rfl rfl fun w' hS => ⟨(), rfl, trivial, hS.sublist (List.nil_sublist _)⟩)
set_option maxRecDepth 100000 in
theorem FrameSame_open {H : Type} {enc : TypeId × Value → H} (W : World) {r : Reach} (base : Nat) (v0 v1 : Value) {d0 d1 : DataW H} {p0 p1 : List MemPlace}
    (hv0 : Value.okWide Tryd.prog W r base 31 v0) (hv1 : Value.okWide Tryd.prog W r base 31 v1)
    (h0 : DataW.Trod enc Tryd.prog W 0 (fun _ => true) true 31 v0 d0 p0) (h1 : DataW.Trod enc Tryd.prog W 0 (fun _ => true) true 31 v1 d1 p1) (hL : laidMetH Tryd.prog [("confluence/sha.roots", Rows.laid_confluence_sha_roots)] W) :
    Calls Tryd.prog 5 #[v0, v1] W fun e w' => e = .returned (.bool true) ∧ Kp All W w' := by
  obtain ⟨x, p, rfl, h, hu⟩ := open_msg hv0 h0
  obtain ⟨y, q, rfl, h2, hu2⟩ := open_msg hv1 h1
  exact (same_walk W (laid_roots hL) x p h y q h2).pure12
end Go.Proofs.YtdbehejbeioboaaDoor
