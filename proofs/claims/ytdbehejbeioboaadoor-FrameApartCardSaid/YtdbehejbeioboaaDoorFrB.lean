/- Messages: Encode; the document's Bytes. -/
import Derived.Test.YtdbehejbeioboaaDoorFrA
namespace Go.Proofs.YtdbehejbeioboaaDoor
open Go.RowKit
open Asn (pt row rb)
set_option linter.unusedVariables false
set_option linter.unusedSimpArgs false
--@use N

theorem plain_len {x : Ms} (h : MsOk x) : (plainB x).length ≤ 66000 := by
  have h1 := h.K1
  have h7 := h.K7
  have hn8 := h.n8
  have hc5 := h.c5
  have hd6 := h.d6
  have hf := flat_le x.es h.ed
  rcases (by omega : x.K = 1 ∨ x.K = 2 ∨ x.K = 3 ∨ x.K = 4 ∨ x.K = 5 ∨ x.K = 6 ∨ x.K = 7) with hK | hK | hK | hK | hK | hK | hK
  · rw [plainB_1 x hK]; simp [be_len]
  · rw [plainB_2 x hK]; simp [be_len]
  · rw [plainB_3 x hK]; simp [be_len]
  · rw [plainB_4 x hK]; simp [be_len]
  · rw [plainB_5 x hK]; simp only [List.length_append, be_len, List.length_cons, List.length_nil]; omega
  · rw [plainB_6 x hK]; simp [be_len]
  · rw [plainB_7 x hK]; simp only [List.length_append, be_len, List.length_cons, List.length_nil, List.length_map]; omega
set_option maxRecDepth 100000 in
set_option maxHeartbeats 4000000 in
theorem encode_bad (w : World) (x : Ms) (p : Mp) (h : MsR w x p) (hb : rightM x = false) :
    Gives Tryd.prog 11 [.agg (mgc x p).toArray] [] w (X := Unit) (fun _ => .tuple #[.slice none 0 0, .int .i64 230]) (fun _ => True) (fun _ => []) := by
  refine gives_S Tryd.func11 rfl Tryd.ntmps11 Tryd.results11 (by simp) (St.enter w) (fun B hB => ?_)
  focus (refine S_seq rfl ?_; refine S_region rfl rfl ?_; (refine R_eff (E_boxa (cs := mgc x p) rfl) ?_ rfl rfl; rintro _ _ ⟨b1, rfl, rfl⟩); (iterate 2 refine R_p rfl ?_ rfl rfl); refine R_nil ?_; refine S_seq rfl ?_; refine S_seq rfl (S_region rfl rfl ?_); refine R_take (T_loads (ds := mgc x p) rfl rfl rfl rfl rfl) ?_ rfl rfl; ((refine R_eff (E_hv0 (f := 13) ⟨_, Tryd.func13, rfl, by kernel_rfl⟩ (fun w hS => checkM_any w x p (h.keep hS.kpO) _ hb) rfl rfl (fun _ => rfl)) ?_ rfl rfl; rintro _ _ ⟨_, rfl, _, rfl⟩); rw [if_neg (by decide)]); refine R_p rfl ?_ rfl rfl; refine R_nil (S_seq rfl (S_region rfl rfl ?_)); refine R_p rfl ?_ rfl rfl; refine R_take (T_decT rfl (by omega)) ?_ rfl rfl; refine R_nil ?_; refine S_true rfl rfl ?_; refine S_seq rfl (S_region rfl rfl ?_); (iterate 3 refine R_p rfl ?_ rfl rfl); refine R_nil ?_)
  exact hB _ _ _ _ _ rfl rfl fun w' hS => ⟨(), rfl, trivial, hS.sublist (List.nil_sublist _)⟩
set_option maxRecDepth 100000 in
set_option maxHeartbeats 4000000 in
theorem encode_ok (w : World) (hrt : Roots w) (x : Ms) (p : Mp) (h : MsR w x p) (hu : MsU x) (hok : MsOk x) (l : List UInt8) (n : Nat) (hpl : plainB x = l) (hln : l.length = n) :
    Gives Tryd.prog 11 [.agg (mgc x p).toArray] [] w (X := Option Addr × Nat) (fun y => .tuple #[.slice y.1 (n + 32) y.2, .int .i64 0]) (fun _ => True) (fun y => [row 5 1 y.1 (n + 32) y.2 ((l ++ sumL l).map bv)]) := by
  refine gives_S Tryd.func11 rfl Tryd.ntmps11 Tryd.results11 (by simp) (St.enter w) (fun B hB => ?_)
  have hnn : n ≤ 66000 := by have := plain_len hok; rw [hpl, hln] at this; exact this
  focus (refine S_seq rfl ?_; refine S_region rfl rfl ?_; (refine R_eff (E_boxa (cs := mgc x p) rfl) ?_ rfl rfl; rintro _ _ ⟨b1, rfl, rfl⟩); (iterate 2 refine R_p rfl ?_ rfl rfl); refine R_nil ?_; refine S_seq rfl ?_; refine S_seq rfl (S_region rfl rfl ?_); refine R_take (T_loads (ds := mgc x p) rfl rfl rfl rfl rfl) ?_ rfl rfl; ((refine R_eff (E_hv0 (f := 13) ⟨_, Tryd.func13, rfl, by kernel_rfl⟩ (fun w hS => checkM_any w x p (h.keep hS.kpO) _ (right_ok.2 hok)) rfl rfl (fun _ => rfl)) ?_ rfl rfl; rintro _ _ ⟨_, rfl, _, rfl⟩); rw [if_pos rfl]); refine R_p rfl ?_ rfl rfl; refine R_nil (S_seq rfl (S_region rfl rfl ?_)); refine R_p rfl ?_ rfl rfl; refine R_take (T_decF rfl (by omega)) ?_ rfl rfl; refine R_nil ?_; refine S_false rfl rfl ?_; refine S_skip rfl ?_; refine S_seq rfl (S_region rfl rfl ?_); refine R_take (T_loads (ds := mgc x p) rfl rfl rfl rfl rfl) ?_ rfl rfl; (refine R_eff (E_hv1 (f := 22) ⟨_, Tryd.func22, rfl, by kernel_rfl⟩ (fun w hS => plain_k w x p (h.keep hS.kpO) hu hok l n hpl hln) rfl rfl (fun _ => rfl)) ?_ rfl rfl; rintro _ _ ⟨⟨A2, c2⟩, rfl, _, rfl⟩); refine R_p rfl ?_ rfl rfl; refine R_nil (S_seq rfl (S_region rfl rfl ?_)); refine R_p rfl ?_ rfl rfl; (refine R_eff (E_hv0 (f := 23) ⟨_, Tryd.func23, rfl, by kernel_rfl⟩ (fun w hS => sum_any w A2 n c2 l All (row_bs (e := 5) hS (by simp) hln) (by omega) (hrt.kp hS.kp (noOwns 0))) rfl rfl (fun _ => rfl)) ?_ rfl rfl; rintro _ _ ⟨_, rfl, _, rfl⟩); (refine R_eff (E_alloca rfl noId_alloc) ?_ rfl rfl; rintro _ _ ⟨b6, rfl, rfl⟩); (refine R_eff0 (E_storew (cs := noId.map bv) (ds := (sumL l).map bv) rfl rfl rfl (by rw [List.length_map, sumL_len]; rfl) (bv_ones _) (by rw [List.length_map, List.length_map, sumL_len]; rfl)) ?_ rfl; rintro _ _ rfl); refine R_nil (S_seq rfl (S_region rfl rfl ?_)); refine R_p rfl ?_ rfl rfl; refine R_take (T_slarr rfl rfl rfl rfl) ?_ rfl rfl; (refine R_eff (E_appB (A := A2) (m := n) (c := c2) (bs := l) (nb := sumL l) rfl rfl rfl rfl rfl rfl (Src.pt (g := b6) (l := sumL l) (sumL_len l) (by decide) (by decide) (fun j u hj => by rw [Nat.zero_add]; exact hj)) (by omega)) ?_ rfl rfl; rintro _ _ ⟨A5, c5, rfl, rfl⟩); (iterate 2 refine R_p rfl ?_ rfl rfl); refine R_nil ?_)
  exact hB _ _ _ _ _ rfl rfl fun w' hS => ⟨(A5, c5), rfl, trivial, sub_st w' hS⟩
set_option maxRecDepth 100000 in
set_option maxHeartbeats 4000000 in
theorem bytesD_k (w : World) (x : Ms) (p : Mp) (h : MsR w x p) (hu : MsU x) (hok : MsOk x) (l : List UInt8) (n : Nat) (hpl : plainB x = l) (hln : l.length = n) :
    Gives Tryd.prog 16 [.agg (mgc x p).toArray] [] w (X := Option Addr × Nat) (fun y => .slice y.1 (n + 32) y.2) (fun _ => True) (fun y => [row 5 1 y.1 (n + 32) y.2 ((l ++ sumL l).map bv)]) := by
  refine gives_S Tryd.func16 rfl Tryd.ntmps16 Tryd.results16 (by simp) (St.enter w) (fun B hB => ?_)
  have hnn : n ≤ 66000 := by have := plain_len hok; rw [hpl, hln] at this; exact this
  focus (refine S_seq rfl ?_; refine S_region rfl rfl ?_; (refine R_eff (E_boxa (cs := mgc x p) rfl) ?_ rfl rfl; rintro _ _ ⟨b1, rfl, rfl⟩); refine R_p rfl ?_ rfl rfl; refine R_nil (S_seq rfl (S_region rfl rfl ?_)); refine R_take (T_loads (ds := mgc x p) rfl rfl rfl rfl rfl) ?_ rfl rfl; (refine R_eff (E_hv1 (f := 33) ⟨_, Tryd.func33, rfl, by kernel_rfl⟩ (fun w hS => plainD_k w x p (h.keep hS.kpO) hu hok l n hpl hln) rfl rfl (fun _ => rfl)) ?_ rfl rfl; rintro _ _ ⟨⟨A2, c2⟩, rfl, _, rfl⟩); refine R_p rfl ?_ rfl rfl; refine R_nil (S_seq rfl (S_region rfl rfl ?_)); refine R_p rfl ?_ rfl rfl; (refine R_eff (E_hv0 (f := 34) ⟨_, Tryd.func34, rfl, by kernel_rfl⟩ (fun w hS => refsum_any w A2 n c2 l All (row_bs (e := 5) hS (by simp) hln) (by omega)) rfl rfl (fun _ => rfl)) ?_ rfl rfl; rintro _ _ ⟨_, rfl, _, rfl⟩); (refine R_eff (E_alloca rfl noId_alloc) ?_ rfl rfl; rintro _ _ ⟨b6, rfl, rfl⟩); (refine R_eff0 (E_storew (cs := noId.map bv) (ds := (sumL l).map bv) rfl rfl rfl (by rw [List.length_map, sumL_len]; rfl) (bv_ones _) (by rw [List.length_map, List.length_map, sumL_len]; rfl)) ?_ rfl; rintro _ _ rfl); refine R_nil (S_seq rfl (S_region rfl rfl ?_)); refine R_p rfl ?_ rfl rfl; refine R_take (T_slarr rfl rfl rfl rfl) ?_ rfl rfl; (refine R_eff (E_both (A1 := A2) (n1 := n) (c1 := c2) (A2 := some ⟨b6, 0, none⟩) (n2 := 32) (c2 := 32) (l1 := l) (l2 := sumL l) rfl rfl Src.row (Src.pt (g := b6) (l := sumL l) (sumL_len l) (by decide) (by decide) (fun j u hj => by rw [Nat.zero_add]; exact hj)) (by omega)) ?_ rfl rfl; rintro _ _ ⟨A5, c5, rfl, rfl⟩); refine R_p rfl ?_ rfl rfl; refine R_nil ?_)
  exact hB _ _ _ _ _ rfl rfl fun w' hS => ⟨(A5, c5), rfl, trivial, sub_st w' hS⟩
end Go.Proofs.YtdbehejbeioboaaDoor
