/- Messages: the statement FrameApart. -/
import Derived.Test.YtdbehejbeioboaaDoorFrI
namespace Go.Proofs.YtdbehejbeioboaaDoor
open Go.RowKit Go.ChangeShapes Go.WideShapes Go.ChangeAt
open Asn (pt row rb)
set_option linter.unusedVariables false
set_option linter.unusedSimpArgs false
--@use N

theorem ag_es (f : List UInt8) (m : Ms) (k : Nat) : ∀ (d j : Nat) (es : List En) (at_ : Nat) (g : Bool), AgRE f m k j es at_ g → j + d = k → ∃ es' at' g', AgR f tr3 r3 ⟨m.K, m.F, m.T, m.tm, m.pl, es', m.cm, m.ok, m.ix, m.cf, m.dt⟩ at' g'
  | 0, j, es, at_, g, h, e => ⟨es, at_, g, ar_es3 h fun _ => by omega⟩
  | d + 1, j, es, at_, g, h, e => by
    cases g
    · exact ⟨es, at_, false, ar_es3 (f := f) (k := k) (j := k) (h.any rfl) fun _ => rfl⟩
    · obtain ⟨⟨t, c1⟩, h1⟩ : ∃ r, numR f at_ 8 = r := ⟨_, rfl⟩
      obtain ⟨⟨ki, c2⟩, h2⟩ : ∃ r, numR f (at_ + 8) 1 = r := ⟨_, rfl⟩
      obtain ⟨⟨sz, c3⟩, h3⟩ : ∃ r, numR f (at_ + 9) 2 = r := ⟨_, rfl⟩
      exact ag_es f m k d (j + 1) _ _ _ (ar_es2 h (by omega) h1 h2 h3) (by omega)
theorem ag_cf (f : List UInt8) (m : Ms) (k at_ : Nat) : ∀ (d j : Nat) (cf : List Int), AgRC f m k j cf at_ → j + d = k → ∃ cf', AgRC f m k k cf' at_
  | 0, j, cf, h, e => by
    obtain rfl : j = k := by omega
    exact ⟨cf, h⟩
  | d + 1, j, cf, h, e => ag_cf f m k at_ d (j + 1) _ (ar_cf2 h (by omega)) (by omega)
theorem ag_all (f : List UInt8) : ∃ m at_ g, AgR f tr7 r7 m at_ g := by
  have s0 : ∃ m at_ g, AgR f tr0 r0 m at_ g := ⟨_, _, _, ar_head f⟩
  have s1 : ∃ m at_ g, AgR f tr1 r1 m at_ g := by
    obtain ⟨m, at_, g, h⟩ := s0
    cases hb : (g && hasB m.K 1)
    · exact ⟨_, _, _, ar_pl0 h hb⟩
    · exact ⟨_, _, _, ar_pl h (Bool.and_eq_true_iff.1 hb).2 rfl rfl⟩
  have s2 : ∃ m at_ g, AgR f tr2 r2 m at_ g := by
    obtain ⟨m, at_, g, h⟩ := s1
    cases hb : (g && hasB m.K 2)
    · exact ⟨_, _, _, ar_ok0 h hb⟩
    · exact ⟨_, _, _, ar_ok h (Bool.and_eq_true_iff.1 hb).2 rfl⟩
  have s3 : ∃ m at_ g, AgR f tr3 r3 m at_ g := by
    obtain ⟨m, at_, g, h⟩ := s2
    cases hb : (g && hasB m.K 4)
    · exact ⟨_, _, _, ar_es0 h hb⟩
    · obtain ⟨es', at', g', h'⟩ := ag_es f m _ _ 0 _ _ _ (ar_es1 h (Bool.and_eq_true_iff.1 hb).2 rfl) (Nat.zero_add _)
      exact ⟨_, _, _, h'⟩
  have s4 : ∃ m at_ g, AgR f tr4 r4 m at_ g := by
    obtain ⟨m, at_, g, h⟩ := s3
    cases hb : (g && hasB m.K 8)
    · exact ⟨_, _, _, ar_cm0 h hb⟩
    · exact ⟨_, _, _, ar_cm h (Bool.and_eq_true_iff.1 hb).2 rfl⟩
  have s5 : ∃ m at_ g, AgR f tr5 r5 m at_ g := by
    obtain ⟨m, at_, g, h⟩ := s4
    cases hb : (g && hasB m.K 16)
    · exact ⟨_, _, _, ar_ix0 h hb⟩
    · exact ⟨_, _, _, ar_ix h (Bool.and_eq_true_iff.1 hb).2 rfl⟩
  have s6 : ∃ m at_ g, AgR f tr6 r6 m at_ g := by
    obtain ⟨m, at_, g, h⟩ := s5
    cases hb : (g && hasB m.K 32)
    · exact ⟨_, _, _, ar_cf0 h hb⟩
    · obtain ⟨_, h1⟩ := ar_cf1 h (Bool.and_eq_true_iff.1 hb).2 rfl
      obtain ⟨cf', h2⟩ := ag_cf f m _ _ _ 0 _ h1 (Nat.zero_add _)
      exact ⟨_, _, _, ar_cf3 h2⟩
  obtain ⟨m, at_, g, h⟩ := s6
  cases hb : (g && hasB m.K 64)
  · exact ⟨_, _, _, ar_dt0 h hb⟩
  · exact ⟨_, _, _, ar_dt h (Bool.and_eq_true_iff.1 hb).2 rfl⟩
theorem plain_inj {x y : Ms} (hx : MsOk x) (ux : MsU x) (hy : MsOk y) (uy : MsU y) (h : plainB x = plainB y) : x = y := by
  obtain ⟨m, at_, g, H⟩ := ag_all (plainB y)
  exact (H x hx ux h).2.2.2.symm.trans (H y hy uy rfl).2.2.2
theorem bytes_inj {x y : Ms} (hx : MsOk x) (ux : MsU x) (hy : MsOk y) (uy : MsU y) : decide (plainB x ++ sumL (plainB x) = plainB y ++ sumL (plainB y)) = (eqL x y).all id := by
  rw [eqL_dec, decide_eq_decide]
  constructor
  · intro h
    exact plain_inj hx ux hy uy (List.append_inj' h (by rw [sumL_len, sumL_len])).1
  · rintro rfl
    rfl
set_option maxRecDepth 100000 in
set_option maxHeartbeats 4000000 in
theorem apart_walk (w : World) (hrt : Roots w) (x : Ms) (p : Mp) (h : MsR w x p) (hu : MsU x) (y : Ms) (q : Mp) (h2 : MsR w y q) (hu2 : MsU y) :
    Gives Tryd.prog 8 [.agg (mgc x p).toArray, .agg (mgc y q).toArray] [] w (X := Unit) (fun _ => .bool true) (fun _ => True) (fun _ => []) := by
  refine gives_S Tryd.func8 rfl Tryd.ntmps8 Tryd.results8 (by simp) (St.enter w) (fun B hB => ?_)
  focus (refine S_seq rfl ?_; refine S_region rfl rfl ?_; (refine R_eff (E_boxa (cs := mgc x p) rfl) ?_ rfl rfl; rintro _ _ ⟨b2, rfl, rfl⟩); (refine R_eff (E_boxa (cs := mgc y q) rfl) ?_ rfl rfl; rintro _ _ ⟨b3, rfl, rfl⟩); refine R_p rfl ?_ rfl rfl; refine R_nil ?_; refine S_seq rfl ?_; refine S_seq rfl (S_region rfl rfl ?_); (refine R_eff (E_hv0 (f := 9) ⟨_, Tryd.func9, rfl, by kernel_rfl⟩ (fun w hS => wakes13_any w (hrt.kp hS.kp (noOwns 0))) rfl rfl (fun _ => rfl)) ?_ rfl rfl; rintro _ _ ⟨_, rfl, _, rfl⟩); refine R_take (T_not rfl) ?_ rfl rfl; refine R_nil ?_; refine S_false rfl rfl ?_; refine S_skip rfl ?_; refine S_seq rfl ?_; refine S_seq rfl (S_region rfl rfl ?_); refine R_take (T_loads (ds := mgc x p) rfl rfl rfl rfl rfl) ?_ rfl rfl; (refine R_eff (E_hv0 (f := 10) ⟨_, Tryd.func10, rfl, by kernel_rfl⟩ (fun w hS => largeM_any w x p (h.keep hS.kpO)) rfl rfl (fun _ => rfl)) ?_ rfl rfl; rintro _ _ ⟨lg, rfl, hlg, rfl⟩); refine R_p rfl ?_ rfl rfl)
  cases lg
  case true =>
    focus ((iterate 2 refine R_skip ?_ rfl rfl); refine R_take (T_decT rfl (by omega)) ?_ rfl rfl; refine R_nil ?_; refine S_true rfl rfl ?_; refine S_seq rfl (S_region rfl rfl ?_); refine R_take (T_decT rfl (by omega)) ?_ rfl rfl; refine R_nil ?_)
    exact hB _ _ _ _ _ rfl rfl fun w' hS => ⟨(), rfl, trivial, hS.sublist (List.nil_sublist _)⟩
  focus (refine R_take (T_loads (ds := mgc y q) rfl rfl rfl rfl rfl) ?_ rfl rfl; (refine R_eff (E_hv0 (f := 10) ⟨_, Tryd.func10, rfl, by kernel_rfl⟩ (fun w hS => largeM_any w y q (h2.keep hS.kpO)) rfl rfl (fun _ => rfl)) ?_ rfl rfl; rintro _ _ ⟨lg2, rfl, hlg2, rfl⟩); refine R_p rfl ?_ rfl rfl; refine R_nil ?_)
  cases lg2
  case true =>
    focus (refine S_true rfl rfl ?_; refine S_seq rfl (S_region rfl rfl ?_); refine R_take (T_decT rfl (by omega)) ?_ rfl rfl; refine R_nil ?_)
    exact hB _ _ _ _ _ rfl rfl fun w' hS => ⟨(), rfl, trivial, hS.sublist (List.nil_sublist _)⟩
  obtain ⟨hn, hcn, hdn, hk1⟩ := hlg rfl
  obtain ⟨hn2, hcn2, hdn2, hk2⟩ := hlg2 rfl
  cases hrm : rightM x
  · cases hrm2 : rightM y
    · skip
      focus (refine S_false rfl rfl ?_; refine S_skip rfl ?_; refine S_seq rfl (S_region rfl rfl ?_); refine R_take (T_loads (ds := mgc x p) rfl rfl rfl rfl rfl) ?_ rfl rfl; (refine R_eff (E_hv0 (f := 11) ⟨_, Tryd.func11, rfl, by kernel_rfl⟩ (fun w hS => encode_bad w x p (h.keep hS.kpO) hrm) rfl rfl (fun _ => rfl)) ?_ rfl rfl; rintro _ _ ⟨_, rfl, _, rfl⟩); (iterate 5 refine R_p rfl ?_ rfl rfl); refine R_nil (S_seq rfl (S_region rfl rfl ?_)); refine R_take (T_loads (ds := mgc y q) rfl rfl rfl rfl rfl) ?_ rfl rfl; (refine R_eff (E_hv0 (f := 11) ⟨_, Tryd.func11, rfl, by kernel_rfl⟩ (fun w hS => encode_bad w y q (h2.keep hS.kpO) hrm2) rfl rfl (fun _ => rfl)) ?_ rfl rfl; rintro _ _ ⟨_, rfl, _, rfl⟩); (iterate 5 refine R_p rfl ?_ rfl rfl); refine R_nil ?_; refine S_seq rfl ?_)
      refine S_draw ([pt b2 31 (mgc x p), pt b3 31 (mgc y q)]) sub_st (by kernel_rfl) rfl (by kernel_rfl) (by kernel_rfl : _ = 16) ?_
      refine D_take 0 rfl (pev_ok rfl) ?_ rfl rfl (by kernel_rfl) (by kernel_rfl)
      refine D_take 1 rfl (T_decT rfl (by omega)) ?_ rfl rfl (by kernel_rfl) (by kernel_rfl)
      refine D_take 2 rfl (T_decT rfl (by omega)) ?_ rfl rfl (by kernel_rfl) (by kernel_rfl)
      refine D_skip 3 rfl ?_ rfl rfl (by kernel_rfl) (by kernel_rfl)
      refine D_skip 4 rfl ?_ rfl rfl (by kernel_rfl) (by kernel_rfl)
      refine D_take 5 rfl (T_decT rfl (by omega)) ?_ rfl rfl (by kernel_rfl) (by kernel_rfl)
      refine D_take 6 rfl (T_decT rfl (by omega)) ?_ rfl rfl (by kernel_rfl) (by kernel_rfl)
      refine D_skip 7 rfl ?_ rfl rfl (by kernel_rfl) (by kernel_rfl)
      refine D_skip 8 rfl ?_ rfl rfl (by kernel_rfl) (by kernel_rfl)
      refine D_skip 9 rfl ?_ rfl rfl (by kernel_rfl) (by kernel_rfl)
      refine D_skip 10 rfl ?_ rfl rfl (by kernel_rfl) (by kernel_rfl)
      refine D_skip 11 rfl ?_ rfl rfl (by kernel_rfl) (by kernel_rfl)
      refine D_skip 12 rfl ?_ rfl rfl (by kernel_rfl) (by kernel_rfl)
      refine D_skip 13 rfl ?_ rfl rfl (by kernel_rfl) (by kernel_rfl)
      refine D_take 14 rfl (T_decT rfl (by omega)) ?_ rfl rfl (by kernel_rfl) (by kernel_rfl)
      refine D_take 15 rfl (T_decT rfl (by omega)) ?_ rfl rfl (by kernel_rfl) (by kernel_rfl)
      refine D_done ?_ (by kernel_rfl)
      skip
      skip
      exact hB _ _ _ _ _ rfl rfl fun w' hS => ⟨(), rfl, trivial, hS.sublist (List.nil_sublist _)⟩
    · skip
      have hok2 := right_ok.1 hrm2
      obtain ⟨L2, hL2⟩ : ∃ L2, plainB y ++ sumL (plainB y) = L2 := ⟨_, rfl⟩
      obtain ⟨k2, hkl2⟩ : ∃ k2, (plainB y).length = k2 := ⟨_, rfl⟩
      have hll2 : L2.length = k2 + 32 := by rw [← hL2, List.length_append, hkl2, sumL_len]
      focus (refine S_false rfl rfl ?_; refine S_skip rfl ?_; refine S_seq rfl (S_region rfl rfl ?_); refine R_take (T_loads (ds := mgc x p) rfl rfl rfl rfl rfl) ?_ rfl rfl; (refine R_eff (E_hv0 (f := 11) ⟨_, Tryd.func11, rfl, by kernel_rfl⟩ (fun w hS => encode_bad w x p (h.keep hS.kpO) hrm) rfl rfl (fun _ => rfl)) ?_ rfl rfl; rintro _ _ ⟨_, rfl, _, rfl⟩); (iterate 5 refine R_p rfl ?_ rfl rfl); refine R_nil (S_seq rfl (S_region rfl rfl ?_)); refine R_take (T_loads (ds := mgc y q) rfl rfl rfl rfl rfl) ?_ rfl rfl; (refine R_eff (E_hv1 (f := 11) ⟨_, Tryd.func11, rfl, by kernel_rfl⟩ (fun w hS => encode_k w (hrt.kp hS.kp (noOwns 0)) y q (h2.keep hS.kpO) hu2 hok2 L2 k2 hL2 hkl2) rfl rfl (fun _ => rfl)) ?_ rfl rfl; rintro _ _ ⟨⟨A9, c9⟩, rfl, hne9, rfl⟩); (iterate 5 refine R_p rfl ?_ rfl rfl); refine R_nil ?_; refine S_seq rfl ?_)
      refine S_draw ([pt b2 31 (mgc x p), pt b3 31 (mgc y q)]) sub_st (by kernel_rfl) rfl (by kernel_rfl) (by kernel_rfl : _ = 16) ?_
      refine D_take 0 rfl (pev_ok rfl) ?_ rfl rfl (by kernel_rfl) (by kernel_rfl)
      refine D_take 1 rfl (T_decT rfl (by omega)) ?_ rfl rfl (by kernel_rfl) (by kernel_rfl)
      refine D_take 2 rfl (pev_ok rfl) ?_ rfl rfl (by kernel_rfl) (by kernel_rfl)
      refine D_skip 3 rfl ?_ rfl rfl (by kernel_rfl) (by kernel_rfl)
      refine D_skip 4 rfl ?_ rfl rfl (by kernel_rfl) (by kernel_rfl)
      refine D_take 5 rfl (pev_ok rfl) ?_ rfl rfl (by kernel_rfl) (by kernel_rfl)
      refine D_take 6 rfl (pev_ok rfl) ?_ rfl rfl (by kernel_rfl) (by kernel_rfl)
      refine D_skip 7 rfl ?_ rfl rfl (by kernel_rfl) (by kernel_rfl)
      refine D_skip 8 rfl ?_ rfl rfl (by kernel_rfl) (by kernel_rfl)
      refine D_skip 9 rfl ?_ rfl rfl (by kernel_rfl) (by kernel_rfl)
      refine D_skip 10 rfl ?_ rfl rfl (by kernel_rfl) (by kernel_rfl)
      refine D_skip 11 rfl ?_ rfl rfl (by kernel_rfl) (by kernel_rfl)
      refine D_skip 12 rfl ?_ rfl rfl (by kernel_rfl) (by kernel_rfl)
      refine D_skip 13 rfl ?_ rfl rfl (by kernel_rfl) (by kernel_rfl)
      refine D_take 14 rfl (pev_ok rfl) ?_ rfl rfl (by kernel_rfl) (by kernel_rfl)
      refine D_take 15 rfl (pev_ok rfl) ?_ rfl rfl (by kernel_rfl) (by kernel_rfl)
      refine D_done ?_ (by kernel_rfl)
      skip
      skip
      exact hB _ _ _ _ _ rfl rfl fun w' hS => ⟨(), rfl, trivial, hS.sublist (List.nil_sublist _)⟩
  · cases hrm2 : rightM y
    · skip
      have hok := right_ok.1 hrm
      obtain ⟨L, hL⟩ : ∃ L, plainB x ++ sumL (plainB x) = L := ⟨_, rfl⟩
      obtain ⟨k, hkl⟩ : ∃ k, (plainB x).length = k := ⟨_, rfl⟩
      have hll : L.length = k + 32 := by rw [← hL, List.length_append, hkl, sumL_len]
      focus (refine S_false rfl rfl ?_; refine S_skip rfl ?_; refine S_seq rfl (S_region rfl rfl ?_); refine R_take (T_loads (ds := mgc x p) rfl rfl rfl rfl rfl) ?_ rfl rfl; (refine R_eff (E_hv1 (f := 11) ⟨_, Tryd.func11, rfl, by kernel_rfl⟩ (fun w hS => encode_k w (hrt.kp hS.kp (noOwns 0)) x p (h.keep hS.kpO) hu hok L k hL hkl) rfl rfl (fun _ => rfl)) ?_ rfl rfl; rintro _ _ ⟨⟨A8, c8⟩, rfl, hne8, rfl⟩); (iterate 5 refine R_p rfl ?_ rfl rfl); refine R_nil (S_seq rfl (S_region rfl rfl ?_)); refine R_take (T_loads (ds := mgc y q) rfl rfl rfl rfl rfl) ?_ rfl rfl; (refine R_eff (E_hv0 (f := 11) ⟨_, Tryd.func11, rfl, by kernel_rfl⟩ (fun w hS => encode_bad w y q (h2.keep hS.kpO) hrm2) rfl rfl (fun _ => rfl)) ?_ rfl rfl; rintro _ _ ⟨_, rfl, _, rfl⟩); (iterate 5 refine R_p rfl ?_ rfl rfl); refine R_nil ?_; refine S_seq rfl ?_)
      refine S_draw ([pt b2 31 (mgc x p), pt b3 31 (mgc y q)]) sub_st (by kernel_rfl) rfl (by kernel_rfl) (by kernel_rfl : _ = 16) ?_
      refine D_take 0 rfl (pev_ok rfl) ?_ rfl rfl (by kernel_rfl) (by kernel_rfl)
      refine D_take 1 rfl (T_decF rfl (by omega)) ?_ rfl rfl (by kernel_rfl) (by kernel_rfl)
      refine D_take 2 rfl (pev_ok rfl) ?_ rfl rfl (by kernel_rfl) (by kernel_rfl)
      refine D_take 3 rfl (pev_ok rfl) ?_ rfl rfl (by kernel_rfl) (by kernel_rfl)
      refine D_take 4 rfl (T_decT rfl (by omega)) ?_ rfl rfl (by kernel_rfl) (by kernel_rfl)
      refine D_take 5 rfl (T_decT rfl (by omega)) ?_ rfl rfl (by kernel_rfl) (by kernel_rfl)
      refine D_take 6 rfl (T_decT rfl (by omega)) ?_ rfl rfl (by kernel_rfl) (by kernel_rfl)
      refine D_skip 7 rfl ?_ rfl rfl (by kernel_rfl) (by kernel_rfl)
      refine D_skip 8 rfl ?_ rfl rfl (by kernel_rfl) (by kernel_rfl)
      refine D_skip 9 rfl ?_ rfl rfl (by kernel_rfl) (by kernel_rfl)
      refine D_skip 10 rfl ?_ rfl rfl (by kernel_rfl) (by kernel_rfl)
      refine D_skip 11 rfl ?_ rfl rfl (by kernel_rfl) (by kernel_rfl)
      refine D_skip 12 rfl ?_ rfl rfl (by kernel_rfl) (by kernel_rfl)
      refine D_skip 13 rfl ?_ rfl rfl (by kernel_rfl) (by kernel_rfl)
      refine D_take 14 rfl (T_decT rfl (by omega)) ?_ rfl rfl (by kernel_rfl) (by kernel_rfl)
      refine D_take 15 rfl (T_decT rfl (by omega)) ?_ rfl rfl (by kernel_rfl) (by kernel_rfl)
      refine D_done ?_ (by kernel_rfl)
      skip
      skip
      exact hB _ _ _ _ _ rfl rfl fun w' hS => ⟨(), rfl, trivial, hS.sublist (List.nil_sublist _)⟩
    · skip
      have hok := right_ok.1 hrm
      obtain ⟨L, hL⟩ : ∃ L, plainB x ++ sumL (plainB x) = L := ⟨_, rfl⟩
      obtain ⟨k, hkl⟩ : ∃ k, (plainB x).length = k := ⟨_, rfl⟩
      have hll : L.length = k + 32 := by rw [← hL, List.length_append, hkl, sumL_len]
      have hok2 := right_ok.1 hrm2
      obtain ⟨L2, hL2⟩ : ∃ L2, plainB y ++ sumL (plainB y) = L2 := ⟨_, rfl⟩
      obtain ⟨k2, hkl2⟩ : ∃ k2, (plainB y).length = k2 := ⟨_, rfl⟩
      have hll2 : L2.length = k2 + 32 := by rw [← hL2, List.length_append, hkl2, sumL_len]
      focus (refine S_false rfl rfl ?_; refine S_skip rfl ?_; refine S_seq rfl (S_region rfl rfl ?_); refine R_take (T_loads (ds := mgc x p) rfl rfl rfl rfl rfl) ?_ rfl rfl; (refine R_eff (E_hv1 (f := 11) ⟨_, Tryd.func11, rfl, by kernel_rfl⟩ (fun w hS => encode_k w (hrt.kp hS.kp (noOwns 0)) x p (h.keep hS.kpO) hu hok L k hL hkl) rfl rfl (fun _ => rfl)) ?_ rfl rfl; rintro _ _ ⟨⟨A8, c8⟩, rfl, hne8, rfl⟩); (iterate 5 refine R_p rfl ?_ rfl rfl); refine R_nil (S_seq rfl (S_region rfl rfl ?_)); refine R_take (T_loads (ds := mgc y q) rfl rfl rfl rfl rfl) ?_ rfl rfl; (refine R_eff (E_hv1 (f := 11) ⟨_, Tryd.func11, rfl, by kernel_rfl⟩ (fun w hS => encode_k w (hrt.kp hS.kp (noOwns 0)) y q (h2.keep hS.kpO) hu2 hok2 L2 k2 hL2 hkl2) rfl rfl (fun _ => rfl)) ?_ rfl rfl; rintro _ _ ⟨⟨A9, c9⟩, rfl, hne9, rfl⟩); (iterate 5 refine R_p rfl ?_ rfl rfl); refine R_nil ?_; refine S_seq rfl ?_)
      obtain ⟨r, hr⟩ : ∃ r, (eqL x y).all id = r := ⟨_, rfl⟩
      have hr2 : decide (L = L2) = r := by rw [← hL, ← hL2, bytes_inj hok hu hok2 hu2, hr]
      refine S_draw ([pt b2 31 (mgc x p), pt b3 31 (mgc y q)]) sub_st (by kernel_rfl) rfl (by kernel_rfl) (by kernel_rfl : _ = 16) ?_
      refine D_take 0 rfl (pev_ok rfl) ?_ rfl rfl (by kernel_rfl) (by kernel_rfl)
      refine D_take 1 rfl (T_decF rfl (by omega)) ?_ rfl rfl (by kernel_rfl) (by kernel_rfl)
      refine D_take 2 rfl (pev_ok rfl) ?_ rfl rfl (by kernel_rfl) (by kernel_rfl)
      refine D_take 3 rfl (pev_ok rfl) ?_ rfl rfl (by kernel_rfl) (by kernel_rfl)
      refine D_take 4 rfl (T_decF rfl (by omega)) ?_ rfl rfl (by kernel_rfl) (by kernel_rfl)
      refine D_take 5 rfl (pev_ok rfl) ?_ rfl rfl (by kernel_rfl) (by kernel_rfl)
      refine D_take 6 rfl (pev_ok rfl) ?_ rfl rfl (by kernel_rfl) (by kernel_rfl)
      refine D_take 7 rfl (pev_ok rfl) ?_ rfl rfl (by kernel_rfl) (by kernel_rfl)
      refine D_take 8 rfl (pev_ok rfl) ?_ rfl rfl (by kernel_rfl) (by kernel_rfl)
      refine D_take 10 rfl (T_loads (ds := mgc x p) rfl rfl rfl rfl rfl) ?_ rfl rfl (by kernel_rfl) (by kernel_rfl)
      refine D_take 11 rfl (T_loads (ds := mgc y q) rfl rfl rfl rfl rfl) ?_ rfl rfl (by kernel_rfl) (by kernel_rfl)
      refine D_one 9 rfl (E_hv0 (f := 21) ⟨_, Tryd.func21, rfl, by kernel_rfl⟩ (fun w hS => oeq_k w A8 A9 (k + 32) c8 (k2 + 32) c9 L L2 (row_bs (e := 5) hS (by simp) hll) (row_bs (e := 5) hS (by simp) hll2) _ hr2) rfl rfl (fun _ => rfl)) ?_ rfl rfl (by kernel_rfl)
      rintro _ _ ⟨_, rfl, _, rfl⟩
      refine Nx_same sub_st ?_
      refine D_one 12 rfl (E_hv0 (f := 20) ⟨_, Tryd.func20, rfl, by kernel_rfl⟩ (fun w hS => sameM_k w x p (h.keep hS.kpO) y q (h2.keep hS.kpO) (by omega) (by omega) (by omega) (by omega) _ hr) rfl rfl (fun _ => rfl)) ?_ rfl rfl (by kernel_rfl)
      rintro _ _ ⟨_, rfl, _, rfl⟩
      refine Nx_same sub_st ?_
      (refine D_take 13 rfl (T_beqE (b := r) (c := r) (r := true) rfl rfl rfl rfl (by cases r <;> rfl)) ?_ rfl rfl (by kernel_rfl) (by kernel_rfl))
      refine D_take 14 rfl (T_decT rfl (by omega)) ?_ rfl rfl (by kernel_rfl) (by kernel_rfl)
      refine D_take 15 rfl (T_decT rfl (by omega)) ?_ rfl rfl (by kernel_rfl) (by kernel_rfl)
      refine D_done ?_ (by kernel_rfl)
      (skip; exact hB _ _ _ _ _ rfl rfl fun w' hS => ⟨(), rfl, trivial, hS.sublist (List.nil_sublist _)⟩)
set_option maxRecDepth 100000 in
theorem FrameApart_open {H : Type} {enc : TypeId × Value → H} (W : World) {r : Reach} (base : Nat) (v0 v1 : Value) {d0 d1 : DataW H} {p0 p1 : List MemPlace}
    (hv0 : Value.okWide Tryd.prog W r base 31 v0) (hv1 : Value.okWide Tryd.prog W r base 31 v1)
    (h0 : DataW.Trod enc Tryd.prog W 0 (fun _ => true) true 31 v0 d0 p0) (h1 : DataW.Trod enc Tryd.prog W 0 (fun _ => true) true 31 v1 d1 p1) (hL : laidMetH Tryd.prog [("confluence/sha.roots", Rows.laid_confluence_sha_roots)] W) :
    Calls Tryd.prog 8 #[v0, v1] W fun e w' => e = .returned (.bool true) ∧ Kp All W w' := by
  obtain ⟨x, p, rfl, h, hu⟩ := open_msg hv0 h0
  obtain ⟨y, q, rfl, h2, hu2⟩ := open_msg hv1 h1
  exact (apart_walk W (laid_roots hL) x p h hu y q h2 hu2).pure12
end Go.Proofs.YtdbehejbeioboaaDoor
