/- Messages: the statement FrameBack. -/
import Derived.Test.YtdbehejbeioboaaDoorFrI
namespace Go.Proofs.YtdbehejbeioboaaDoor
open Go.RowKit Go.ChangeShapes Go.WideShapes Go.ChangeAt
open Asn (pt row rb)
set_option linter.unusedVariables false
set_option linter.unusedSimpArgs false
--@use N

set_option maxRecDepth 100000 in
set_option maxHeartbeats 4000000 in
theorem back_walk (w : World) (hrt : Roots w) (x : Ms) (p : Mp) (h : MsR w x p) (hu : MsU x) :
    Gives Tryd.prog 6 [.agg (mgc x p).toArray] [] w (X := Unit) (fun _ => .bool true) (fun _ => True) (fun _ => []) := by
  refine gives_S Tryd.func6 rfl Tryd.ntmps6 Tryd.results6 (by simp) (St.enter w) (fun B hB => ?_)
  focus (refine S_seq rfl ?_; refine S_region rfl rfl ?_; (refine R_eff (E_boxa (cs := mgc x p) rfl) ?_ rfl rfl; rintro _ _ ⟨b1, rfl, rfl⟩); refine R_p rfl ?_ rfl rfl; refine R_nil ?_; refine S_seq rfl ?_; refine S_seq rfl (S_region rfl rfl ?_); (refine R_eff (E_hv0 (f := 9) ⟨_, Tryd.func9, rfl, by kernel_rfl⟩ (fun w hS => wakes13_any w (hrt.kp hS.kp (noOwns 0))) rfl rfl (fun _ => rfl)) ?_ rfl rfl; rintro _ _ ⟨_, rfl, _, rfl⟩); refine R_take (T_not rfl) ?_ rfl rfl; refine R_nil ?_; refine S_false rfl rfl ?_; refine S_skip rfl ?_; refine S_seq rfl ?_; refine S_seq rfl (S_region rfl rfl ?_); refine R_take (T_loads (ds := mgc x p) rfl rfl rfl rfl rfl) ?_ rfl rfl; (refine R_eff (E_hv0 (f := 10) ⟨_, Tryd.func10, rfl, by kernel_rfl⟩ (fun w hS => largeM_any w x p (h.keep hS.kpO)) rfl rfl (fun _ => rfl)) ?_ rfl rfl; rintro _ _ ⟨lg, rfl, hlg, rfl⟩); refine R_nil ?_)
  cases lg
  case true =>
    focus (refine S_true rfl rfl ?_; refine S_seq rfl (S_region rfl rfl ?_); refine R_take (T_decT rfl (by omega)) ?_ rfl rfl; refine R_nil ?_)
    exact hB _ _ _ _ _ rfl rfl fun w' hS => ⟨(), rfl, trivial, hS.sublist (List.nil_sublist _)⟩
  obtain ⟨hn, hcn, hdn, hk1⟩ := hlg rfl
  cases hrm : rightM x
  · skip
    focus (refine S_false rfl rfl ?_; refine S_skip rfl ?_; refine S_seq rfl (S_region rfl rfl ?_); refine R_take (T_loads (ds := mgc x p) rfl rfl rfl rfl rfl) ?_ rfl rfl; (refine R_eff (E_hv0 (f := 11) ⟨_, Tryd.func11, rfl, by kernel_rfl⟩ (fun w hS => encode_bad w x p (h.keep hS.kpO) hrm) rfl rfl (fun _ => rfl)) ?_ rfl rfl; rintro _ _ ⟨_, rfl, _, rfl⟩); (iterate 5 refine R_p rfl ?_ rfl rfl); refine R_nil ?_; refine S_seq rfl ?_; refine S_seq rfl (S_region rfl rfl ?_); refine R_p rfl ?_ rfl rfl; refine R_take (T_decT rfl (by omega)) ?_ rfl rfl; refine R_nil ?_; refine S_true rfl rfl ?_; refine S_seq rfl (S_region rfl rfl ?_); (iterate 2 refine R_p rfl ?_ rfl rfl); refine R_take (T_decT rfl (by omega)) ?_ rfl rfl; refine R_take (T_decT rfl (by omega)) ?_ rfl rfl; refine R_nil ?_)
    exact hB _ _ _ _ _ rfl rfl fun w' hS => ⟨(), rfl, trivial, hS.sublist (List.nil_sublist _)⟩
  · have hok := right_ok.1 hrm
    have hpl := plain_len hok
    obtain ⟨L, hL⟩ : ∃ L, plainB x ++ sumL (plainB x) = L := ⟨_, rfl⟩
    obtain ⟨k, hkl⟩ : ∃ k, (plainB x).length = k := ⟨_, rfl⟩
    have hll : L.length = k + 32 := by rw [← hL, List.length_append, hkl, sumL_len]
    have hdm : DecP L x := hL ▸ decP_of hok hu
    have hln := h.ln
    have hhc := h.hc
    focus (refine S_false rfl rfl ?_; refine S_skip rfl ?_; refine S_seq rfl (S_region rfl rfl ?_); refine R_take (T_loads (ds := mgc x p) rfl rfl rfl rfl rfl) ?_ rfl rfl; (refine R_eff (E_hv1 (f := 11) ⟨_, Tryd.func11, rfl, by kernel_rfl⟩ (fun w hS => encode_k w (hrt.kp hS.kp (noOwns 0)) x p (h.keep hS.kpO) hu hok L k hL hkl) rfl rfl (fun _ => rfl)) ?_ rfl rfl; rintro _ _ ⟨⟨A8, c8⟩, rfl, hne8, rfl⟩); (iterate 5 refine R_p rfl ?_ rfl rfl); refine R_nil ?_; refine S_seq rfl ?_; refine S_seq rfl (S_region rfl rfl ?_); refine R_p rfl ?_ rfl rfl; refine R_take (T_decF rfl (by omega)) ?_ rfl rfl; refine R_nil ?_; refine S_false rfl rfl ?_; refine S_skip rfl ?_; refine S_seq rfl (S_region rfl rfl ?_); refine R_p rfl ?_ rfl rfl; (refine R_eff (E_hvG (f := 17) ⟨_, Tryd.func17, rfl, by kernel_rfl⟩ (fun w hS => decode_k w (hrt.kp hS.kp (noOwns 0)) A8 (k + 32) c8 L (row_bs (e := 5) hS (by simp) hll) (by omega)) rfl rfl) ?_ rfl rfl; rintro _ _ ⟨⟨x1, q1, e1⟩, rfl, ⟨hw1, hd1⟩, rfl⟩; dsimp only at hw1 hd1; dsimp only [List.cons_append, List.nil_append]; obtain ⟨rfl, rfl⟩ := hd1.is hdm); (iterate 3 refine R_p rfl ?_ rfl rfl); (refine R_eff (E_alloca rfl mg_zero) ?_ rfl rfl; rintro _ _ ⟨b5, rfl, rfl⟩); (refine R_eff0 (E_storew (cs := mgc Z0 P0) (ds := mgc x1 q1) rfl rfl rfl rfl (mgc_one _ _) rfl) ?_ rfl; rintro _ _ rfl); refine R_p rfl ?_ rfl rfl; refine R_nil (S_seq rfl (S_region rfl rfl ?_)); refine R_p rfl ?_ rfl rfl; refine R_take (T_decT rfl (by omega)) ?_ rfl rfl; refine R_p rfl ?_ rfl rfl)
    have hn1 : q1.n = p.n := by have e1 := hw1.1; have e2 := congrArg List.length hw1.2; rw [List.length_map] at e2; omega
    have hc1 := hw1.3
    focus (refine R_take (T_loads (ds := mgc x1 q1) rfl rfl rfl rfl rfl) ?_ rfl rfl; refine R_take (T_loads (ds := mgc x1 p) rfl rfl rfl rfl rfl) ?_ rfl rfl; (refine R_eff (E_hv0 (f := 20) ⟨_, Tryd.func20, rfl, by kernel_rfl⟩ (fun w hS => sameM_k w x1 q1 (own_msr hS (by simp) (by simp) (by simp) (by simp) hw1) x1 p (h.keep hS.kpO) (by omega) (by omega) (by omega) (by omega) _ (eqL_rfl _)) rfl rfl (fun _ => rfl)) ?_ rfl rfl; rintro _ _ ⟨_, rfl, _, rfl⟩); refine R_take (T_decT rfl (by omega)) ?_ rfl rfl; refine R_take (T_decT rfl (by omega)) ?_ rfl rfl; refine R_take (T_loads (ds := mgc x1 q1) rfl rfl rfl rfl rfl) ?_ rfl rfl; ((refine R_eff (E_hv0 (f := 13) ⟨_, Tryd.func13, rfl, by kernel_rfl⟩ (fun w hS => checkM_any w x1 q1 (own_msr hS (by simp) (by simp) (by simp) (by simp) hw1) _ hrm) rfl rfl (fun _ => rfl)) ?_ rfl rfl; rintro _ _ ⟨_, rfl, _, rfl⟩); first | rw [if_pos rfl] | rw [if_neg (by decide)]); refine R_take (T_decT rfl (by omega)) ?_ rfl rfl; refine R_take (T_decT rfl (by omega)) ?_ rfl rfl; refine R_take (T_decT rfl (by omega)) ?_ rfl rfl; refine R_nil ?_)
    exact hB _ _ _ _ _ rfl rfl fun w' hS => ⟨(), rfl, trivial, hS.sublist (List.nil_sublist _)⟩
set_option maxRecDepth 100000 in
theorem FrameBack_open {H : Type} {enc : TypeId × Value → H} (W : World) {r : Reach} (base : Nat) (v0 : Value) {d0 : DataW H} {p0 : List MemPlace}
    (hv0 : Value.okWide Tryd.prog W r base 31 v0)
    (h0 : DataW.Trod enc Tryd.prog W 0 (fun _ => true) true 31 v0 d0 p0) (hL : laidMetH Tryd.prog [("confluence/sha.roots", Rows.laid_confluence_sha_roots)] W) :
    Calls Tryd.prog 6 #[v0] W fun e w' => e = .returned (.bool true) ∧ Kp All W w' := by
  obtain ⟨x, p, rfl, h, hu⟩ := open_msg hv0 h0
  exact (back_walk W (laid_roots hL) x p h hu).pure12
end Go.Proofs.YtdbehejbeioboaaDoor
