/- Messages: the statement FrameDecodes. -/
import Derived.Test.YtdbehejbeioboaaDoorFrI
namespace Go.Proofs.YtdbehejbeioboaaDoor
open Go.RowKit Go.ChangeShapes Go.WideShapes Go.ChangeAt
open Asn (pt row rb)
set_option linter.unusedVariables false
set_option linter.unusedSimpArgs false
--@use N

theorem Dec.same {b : List UInt8} {n : Nat} {x y : Ms} {p q : Mp} {e e2 : Int} (h : Dec b n x p e) (h2 : Dec b n y q e2) : y = x ∧ e2 = e := by
  rcases h with ⟨h1, h3, h4⟩ | ⟨h1, h3, _, h4⟩
  · obtain ⟨h5, h6⟩ := h2.is h3
    exact ⟨h5, h6.trans h1.symm⟩
  · rcases h2 with ⟨_, k3, _⟩ | ⟨k1, k3, _, _⟩
    · exact absurd k3 (h4 _)
    · exact ⟨k3.trans h3.symm, k1.trans h1.symm⟩
set_option maxRecDepth 100000 in
set_option maxHeartbeats 4000000 in
theorem decodes_walk (w : World) (hrt : Roots w) (A : Option Addr) (n c : Nat) (b : List UInt8) (hb : Bs w All A n c b) :
    Gives Tryd.prog 4 [.slice A n c] [] w (X := Unit) (fun _ => .bool true) (fun _ => True) (fun _ => []) := by
  refine gives_S Tryd.func4 rfl Tryd.ntmps4 Tryd.results4 (by simp) (St.enter w) (fun B hB => ?_)
  have hbl := hb.len
  rcases Nat.lt_or_ge 5000 n with hbig | hsm
  · focus (refine S_seq rfl ?_; refine S_region rfl rfl ?_; refine R_p rfl ?_ rfl rfl; refine R_nil ?_; refine S_seq rfl ?_; refine S_seq rfl (S_region rfl rfl ?_); (refine R_eff (E_hv0 (f := 9) ⟨_, Tryd.func9, rfl, by kernel_rfl⟩ (fun w hS => wakes13_any w (hrt.kp hS.kp (noOwns 0))) rfl rfl (fun _ => rfl)) ?_ rfl rfl; rintro _ _ ⟨_, rfl, _, rfl⟩); refine R_take (T_not rfl) ?_ rfl rfl; refine R_nil ?_; refine S_false rfl rfl ?_; refine S_skip rfl ?_; refine S_seq rfl ?_; refine S_seq rfl (S_region rfl rfl ?_); (iterate 2 refine R_p rfl ?_ rfl rfl); refine R_take (T_decT rfl (by omega)) ?_ rfl rfl; refine R_nil ?_; refine S_true rfl rfl ?_; refine S_seq rfl (S_region rfl rfl ?_); refine R_take (T_decT rfl (by omega)) ?_ rfl rfl; refine R_nil ?_)
    exact hB _ _ _ _ _ rfl rfl fun w' hS => ⟨(), rfl, trivial, hS.sublist (List.nil_sublist _)⟩
  focus (refine S_seq rfl ?_; refine S_region rfl rfl ?_; refine R_p rfl ?_ rfl rfl; refine R_nil ?_; refine S_seq rfl ?_; refine S_seq rfl (S_region rfl rfl ?_); (refine R_eff (E_hv0 (f := 9) ⟨_, Tryd.func9, rfl, by kernel_rfl⟩ (fun w hS => wakes13_any w (hrt.kp hS.kp (noOwns 0))) rfl rfl (fun _ => rfl)) ?_ rfl rfl; rintro _ _ ⟨_, rfl, _, rfl⟩); refine R_take (T_not rfl) ?_ rfl rfl; refine R_nil ?_; refine S_false rfl rfl ?_; refine S_skip rfl ?_; refine S_seq rfl ?_; refine S_seq rfl (S_region rfl rfl ?_); (iterate 2 refine R_p rfl ?_ rfl rfl); refine R_take (T_decF rfl (by omega)) ?_ rfl rfl; refine R_nil ?_; refine S_false rfl rfl ?_; refine S_skip rfl ?_; refine S_seq rfl (S_region rfl rfl ?_); (refine R_eff (E_lit1 (m := 0) (vs := []) rfl rfl rfl rfl rfl rfl rfl (by simp) (by decide)) ?_ rfl rfl; rintro _ _ ⟨bl, rfl, rfl⟩); refine R_p rfl ?_ rfl rfl; (refine R_eff (E_apple (sz := 1) (A2 := A) (m2 := n) (c2 := c) (news := b.map bv) rfl rfl rfl rfl rfl rfl rfl (by decide) .here (Srd.old hb.rd (fun k _ => noOwns k)) (bv_ones _) (by show n * 1 ≤ _; omega) (by unfold maxLen; omega)) ?_ rfl rfl; rintro _ _ ⟨A8, c8, rfl, rfl⟩); (refine R_eff (E_hvG (f := 17) ⟨_, Tryd.func17, rfl, by kernel_rfl⟩ (fun w hS => decode_k w (hrt.kp hS.kp (noOwns 0)) A8 (n) c8 b (row_bs (e := 5) hS (by simp) hbl.symm) (by omega)) rfl rfl) ?_ rfl rfl; rintro _ _ ⟨⟨x1, q1, e1⟩, rfl, ⟨hw1, hd1⟩, rfl⟩; dsimp only at hw1 hd1; dsimp only [List.cons_append, List.nil_append]); (iterate 3 refine R_p rfl ?_ rfl rfl); (refine R_eff (E_alloca rfl mg_zero) ?_ rfl rfl; rintro _ _ ⟨b3, rfl, rfl⟩); (refine R_eff0 (E_storew (cs := mgc Z0 P0) (ds := mgc x1 q1) rfl rfl rfl rfl (mgc_one _ _) rfl) ?_ rfl; rintro _ _ rfl); refine R_p rfl ?_ rfl rfl; refine R_nil (S_seq rfl (S_region rfl rfl ?_)); refine R_p rfl ?_ rfl rfl)
  focus ((refine R_eff (E_hvG (f := 18) ⟨_, Tryd.func18, rfl, by kernel_rfl⟩ (fun w hS => decodeD_k w A (n) c b (hb.keep hS.kpO) (by omega)) rfl rfl) ?_ rfl rfl; rintro _ _ ⟨⟨x2, q2, e2⟩, rfl, ⟨hw2, hb2, hc2, hd2⟩, rfl⟩; dsimp only at hw2 hb2 hc2 hd2; dsimp only [List.cons_append, List.nil_append]; obtain ⟨rfl, rfl⟩ := hd1.same hd2); (iterate 3 refine R_p rfl ?_ rfl rfl); (refine R_eff (E_alloca rfl mg_zero) ?_ rfl rfl; rintro _ _ ⟨b5, rfl, rfl⟩); (refine R_eff0 (E_storew (cs := mgc Z0 P0) (ds := mgc x2 q2) rfl rfl rfl rfl (mgc_one _ _) rfl) ?_ rfl; rintro _ _ rfl); refine R_p rfl ?_ rfl rfl; refine R_nil (S_seq rfl (S_region rfl rfl ?_)); (iterate 2 refine R_p rfl ?_ rfl rfl); refine R_take (T_decT rfl (by omega)) ?_ rfl rfl; refine R_p rfl ?_ rfl rfl; refine R_take (T_loads (ds := mgc x2 q1) rfl rfl rfl rfl rfl) ?_ rfl rfl; refine R_take (T_loads (ds := mgc x2 q2) rfl rfl rfl rfl rfl) ?_ rfl rfl; (refine R_eff (E_hv0 (f := 19) ⟨_, Tryd.func19, rfl, by kernel_rfl⟩ (fun w hS => sameMD_k w x2 q1 (own_msr hS (by simp) (by simp) (by simp) (by simp) hw1) x2 q2 (own_msrD hS (by simp) (by simp) (hb2 w (hb.keep hS.kpO)) (hc2 w (hb.keep hS.kpO)) hw2) true (eqL_rfl _)) rfl rfl (fun _ => rfl)) ?_ rfl rfl; rintro _ _ ⟨_, rfl, _, rfl⟩); refine R_take (T_decT rfl (by omega)) ?_ rfl rfl; refine R_take (T_decT rfl (by omega)) ?_ rfl rfl; refine R_nil ?_)
  exact hB _ _ _ _ _ rfl rfl fun w' hS => ⟨(), rfl, trivial, hS.sublist (List.nil_sublist _)⟩
set_option maxRecDepth 100000 in
theorem FrameDecodes_open {H : Type} {enc : TypeId × Value → H} (W : World) {r : Reach} (base : Nat) (v0 : Value) {d0 : DataW H} {p0 : List MemPlace}
    (hv0 : Value.okWide Tryd.prog W r base 29 v0)
    (h0 : DataW.Trod enc Tryd.prog W 0 (fun _ => true) true 29 v0 d0 p0) (hL : laidMetH Tryd.prog [("confluence/sha.roots", Rows.laid_confluence_sha_roots)] W) :
    Calls Tryd.prog 4 #[v0] W fun e w' => e = .returned (.bool true) ∧ Kp All W w' := by
  obtain ⟨A, n, c, b, rfl, hb⟩ := open_bytes hv0 h0
  exact (decodes_walk W (laid_roots hL) A n c b hb).pure12
end Go.Proofs.YtdbehejbeioboaaDoor
