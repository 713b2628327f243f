/- Messages: the statement FrameOne. -/
import Derived.Test.YtdbehejbeioboaaDoorFrI
namespace Go.Proofs.YtdbehejbeioboaaDoor
open Go.RowKit Go.ChangeShapes Go.WideShapes Go.ChangeAt
open Asn (pt row rb)
set_option linter.unusedVariables false
set_option linter.unusedSimpArgs false
--@use N

set_option maxRecDepth 100000 in
set_option maxHeartbeats 4000000 in
theorem one_walk (w : World) (hrt : Roots w) (A : Option Addr) (n c : Nat) (b : List UInt8) (hb : Bs w All A n c b) :
    Gives Tryd.prog 7 [.slice A n c] [] w (X := Unit) (fun _ => .bool true) (fun _ => True) (fun _ => []) := by
  refine gives_S Tryd.func7 rfl Tryd.ntmps7 Tryd.results7 (by simp) (St.enter w) (fun B hB => ?_)
  have hbl := hb.len
  rcases Nat.lt_or_ge 5000 n with hbig | hsm
  · focus (refine S_seq rfl ?_; refine S_region rfl rfl ?_; refine R_p rfl ?_ rfl rfl; refine R_nil ?_; refine S_seq rfl ?_; refine S_seq rfl (S_region rfl rfl ?_); (refine R_eff (E_hv0 (f := 9) ⟨_, Tryd.func9, rfl, by kernel_rfl⟩ (fun w hS => wakes13_any w (hrt.kp hS.kp (noOwns 0))) rfl rfl (fun _ => rfl)) ?_ rfl rfl; rintro _ _ ⟨_, rfl, _, rfl⟩); refine R_take (T_not rfl) ?_ rfl rfl; refine R_nil ?_; refine S_false rfl rfl ?_; refine S_skip rfl ?_; refine S_seq rfl ?_; refine S_seq rfl (S_region rfl rfl ?_); (iterate 2 refine R_p rfl ?_ rfl rfl); refine R_take (T_decT rfl (by omega)) ?_ rfl rfl; refine R_nil ?_; refine S_true rfl rfl ?_; refine S_seq rfl (S_region rfl rfl ?_); refine R_take (T_decT rfl (by omega)) ?_ rfl rfl; refine R_nil ?_)
    exact hB _ _ _ _ _ rfl rfl fun w' hS => ⟨(), rfl, trivial, hS.sublist (List.nil_sublist _)⟩
  focus (refine S_seq rfl ?_; refine S_region rfl rfl ?_; refine R_p rfl ?_ rfl rfl; refine R_nil ?_; refine S_seq rfl ?_; refine S_seq rfl (S_region rfl rfl ?_); (refine R_eff (E_hv0 (f := 9) ⟨_, Tryd.func9, rfl, by kernel_rfl⟩ (fun w hS => wakes13_any w (hrt.kp hS.kp (noOwns 0))) rfl rfl (fun _ => rfl)) ?_ rfl rfl; rintro _ _ ⟨_, rfl, _, rfl⟩); refine R_take (T_not rfl) ?_ rfl rfl; refine R_nil ?_; refine S_false rfl rfl ?_; refine S_skip rfl ?_; refine S_seq rfl ?_; refine S_seq rfl (S_region rfl rfl ?_); (iterate 2 refine R_p rfl ?_ rfl rfl); refine R_take (T_decF rfl (by omega)) ?_ rfl rfl; refine R_nil ?_; refine S_false rfl rfl ?_; refine S_skip rfl ?_; refine S_seq rfl (S_region rfl rfl ?_); refine R_p rfl ?_ rfl rfl; (refine R_eff (E_hvG (f := 17) ⟨_, Tryd.func17, rfl, by kernel_rfl⟩ (fun w hS => decode_k w (hrt.kp hS.kp (noOwns 0)) A (n) c b (hb.keep hS.kpO) (by omega)) rfl rfl) ?_ rfl rfl; rintro _ _ ⟨⟨x1, q1, e1⟩, rfl, ⟨hw1, hd1⟩, rfl⟩; dsimp only at hw1 hd1; dsimp only [List.cons_append, List.nil_append]); (iterate 3 refine R_p rfl ?_ rfl rfl); (refine R_eff (E_alloca rfl mg_zero) ?_ rfl rfl; rintro _ _ ⟨b3, rfl, rfl⟩); (refine R_eff0 (E_storew (cs := mgc Z0 P0) (ds := mgc x1 q1) rfl rfl rfl rfl (mgc_one _ _) rfl) ?_ rfl; rintro _ _ rfl); refine R_p rfl ?_ rfl rfl; refine R_nil ?_; refine S_seq rfl ?_; refine S_seq rfl (S_region rfl rfl ?_); (iterate 2 refine R_p rfl ?_ rfl rfl); refine R_nil ?_)
  rcases hd1 with ⟨rfl, hdp, _⟩ | ⟨he, rfl, rfl, _⟩
  · obtain ⟨f, hf, hok, hu, hpf⟩ := hdp
    obtain ⟨k, hkl⟩ : ∃ k, (plainB x1).length = k := ⟨_, rfl⟩
    have hnk : k + 32 = n := by rw [hbl, hf, List.length_append, sumL_len, ← hpf, hkl]
    subst hnk
    focus (refine S_false rfl rfl ?_; refine S_skip rfl ?_; refine S_seq rfl (S_region rfl rfl ?_); refine R_take (T_loads (ds := mgc x1 q1) rfl rfl rfl rfl rfl) ?_ rfl rfl; (refine R_eff (E_hv1 (f := 11) ⟨_, Tryd.func11, rfl, by kernel_rfl⟩ (fun w hS => encode_k w (hrt.kp hS.kp (noOwns 0)) x1 q1 (own_msr hS (by simp) (by simp) (by simp) (by simp) hw1) hu hok b k (by rw [hpf]; exact hf.symm) hkl) rfl rfl (fun _ => rfl)) ?_ rfl rfl; rintro _ _ ⟨⟨A8, c8⟩, rfl, hne8, rfl⟩); (iterate 5 refine R_p rfl ?_ rfl rfl); refine R_nil (S_seq rfl (S_region rfl rfl ?_)); refine R_p rfl ?_ rfl rfl; refine R_take (T_decT rfl (by omega)) ?_ rfl rfl; (iterate 3 refine R_p rfl ?_ rfl rfl); (refine R_eff (E_hv0 (f := 21) ⟨_, Tryd.func21, rfl, by kernel_rfl⟩ (fun w hS => oeq_k w A A8 (k + 32) c (k + 32) c8 b b (hb.keep hS.kpO) (row_bs (e := 5) hS (by simp) hbl.symm) true (decide_eq_true rfl)) rfl rfl (fun _ => rfl)) ?_ rfl rfl; rintro _ _ ⟨_, rfl, _, rfl⟩); refine R_take (T_decT rfl (by omega)) ?_ rfl rfl; refine R_take (T_decT rfl (by omega)) ?_ rfl rfl; refine R_nil ?_)
    exact hB _ _ _ _ _ rfl rfl fun w' hS => ⟨(), rfl, trivial, hS.sublist (List.nil_sublist _)⟩
  · have he0 : e1 ≠ 0 := by rw [he]; split <;> decide
    refine S_if rfl rfl (fun hs => ?_) (fun hs => absurd he0 hs)
    focus (refine S_seq rfl ?_; refine S_region rfl rfl ?_; refine R_take (T_loads (ds := mgc Z0 P0) rfl rfl rfl rfl rfl) ?_ rfl rfl; refine R_take (T_build0 mg_built0) ?_ rfl rfl; (refine R_eff (E_hv0 (f := 20) ⟨_, Tryd.func20, rfl, by kernel_rfl⟩ (fun w hS => sameM_k w Z0 P0 (msr_nil w rfl rfl rfl) Z0 P0 (msr_nil w rfl rfl rfl) (by decide) (by decide) (by decide) (by decide) _ (eqL_rfl _)) rfl rfl (fun _ => rfl)) ?_ rfl rfl; rintro _ _ ⟨_, rfl, _, rfl⟩); refine R_take (T_decT rfl (by omega)) ?_ rfl rfl; refine R_nil ?_)
    exact hB _ _ _ _ _ rfl rfl fun w' hS => ⟨(), rfl, trivial, hS.sublist (List.nil_sublist _)⟩
set_option maxRecDepth 100000 in
theorem FrameOne_open {H : Type} {enc : TypeId × Value → H} (W : World) {r : Reach} (base : Nat) (v0 : Value) {d0 : DataW H} {p0 : List MemPlace}
    (hv0 : Value.okWide Tryd.prog W r base 29 v0)
    (h0 : DataW.Trod enc Tryd.prog W 0 (fun _ => true) true 29 v0 d0 p0) (hL : laidMetH Tryd.prog [("confluence/sha.roots", Rows.laid_confluence_sha_roots)] W) :
    Calls Tryd.prog 7 #[v0] W fun e w' => e = .returned (.bool true) ∧ Kp All W w' := by
  obtain ⟨A, n, c, b, rfl, hb⟩ := open_bytes hv0 h0
  exact (one_walk W (laid_roots hL) A n c b hb).pure12
end Go.Proofs.YtdbehejbeioboaaDoor
