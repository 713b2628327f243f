/- slices.Sort of at most twelve numbers of 64 bits; Agreed. -/
import Derived.Test.YtlihhjldkopfhaaCoW
namespace Go.Proofs.Ytlihhjldkopfhaa
open Go.RowKit
open Asn (pt row rb)
set_option linter.unusedVariables false
set_option linter.unusedSimpArgs false
--@use N

theorem fits_u8 (x : UInt8) : fits .i64 (x.toNat : Int) := by
  have := x.toNat_lt
  unfold fits
  omega
theorem fits_u8s (x : UInt8) : fits .i64 (0 + (x.toNat : Int)) := by
  have := x.toNat_lt
  unfold fits
  omega
set_option maxRecDepth 100000 in
set_option maxHeartbeats 4000000 in
theorem len64_any (w : World) (q : Nat) (hq : q < 256) :
    Gives Try.prog 68 [uv q] [] w (X := Nat) (fun x => .int .i64 (x : Int)) (fun x => x < 256) (fun _ => []) := by
  refine gives_S Try.func68 rfl Try.ntmps68 Try.results68 (by simp) (St.enter w) (fun B hB => ?_)
  focus (refine S_seq rfl ?_; refine S_region rfl rfl ?_; refine R_p rfl ?_ rfl rfl; refine R_nil ?_; refine S_seq rfl ?_; refine S_seq rfl ?_; refine S_region rfl rfl ?_; refine R_p rfl ?_ rfl rfl; refine R_take (T_decF rfl (by omega)) ?_ rfl rfl; refine R_nil ?_; refine S_false rfl rfl ?_; refine S_skip rfl ?_; refine S_seq rfl ?_; refine S_seq rfl ?_; refine S_region rfl rfl ?_; refine R_p rfl ?_ rfl rfl; refine R_take (T_decF rfl (by omega)) ?_ rfl rfl; refine R_nil ?_; refine S_false rfl rfl ?_; refine S_skip rfl ?_; refine S_seq rfl ?_; refine S_seq rfl ?_; refine S_region rfl rfl ?_; refine R_p rfl ?_ rfl rfl; refine R_take (T_decF rfl (by omega)) ?_ rfl rfl; refine R_nil ?_; refine S_false rfl rfl ?_; refine S_skip rfl ?_; refine S_seq rfl ?_; refine S_region rfl rfl ?_; refine R_p rfl ?_ rfl rfl; refine R_p rfl ?_ rfl rfl; refine R_take (T_convf rfl rfl rfl rfl (by unfold fits; omega)) ?_ rfl rfl; refine R_take (T_ixs rfl rfl rfl rfl (by first | assumption | omega)) ?_ rfl rfl; refine R_take (T_convf rfl rfl rfl rfl (fits_u8 _)) ?_ rfl rfl; refine R_take (T_sum rfl rfl rfl (fits_u8s _)) ?_ rfl rfl; refine R_p rfl ?_ rfl rfl; refine R_nil ?_)
  refine hB _ _ _ _ _ rfl rfl fun w' hS => ⟨_, congrArg (Value.int .i64) (Int.zero_add _), UInt8.toNat_lt _, hS⟩
set_option maxRecDepth 100000 in
set_option maxHeartbeats 4000000 in
theorem len_any (w : World) (q : Nat) (hq : q < 256) :
    Gives Try.prog 54 [uv q] [] w (X := Nat) (fun x => .int .i64 (x : Int)) (fun x => x < 256) (fun _ => []) := by
  refine gives_S Try.func54 rfl Try.ntmps54 Try.results54 (by simp) (St.enter w) (fun B hB => ?_)
  focus (refine S_seq rfl ?_; refine S_region rfl rfl ?_; refine R_p rfl ?_ rfl rfl; refine R_nil ?_; refine S_seq rfl ?_; refine S_false rfl rfl ?_; refine S_skip rfl ?_; refine S_seq rfl ?_; refine S_region rfl rfl ?_; refine R_p rfl ?_ rfl rfl; (refine R_eff (E_gv0 (f := 68) ⟨_, Try.func68, rfl, by kernel_rfl⟩ rfl (fun w hS => len64_any w q hq) (fun _ => rfl)) ?_ rfl rfl; rintro _ _ ⟨k, rfl, hk, rfl⟩); refine R_p rfl ?_ rfl rfl; refine R_nil ?_)
  all_goals (refine hB _ _ _ _ _ rfl rfl fun w' hS => ⟨_, rfl, by assumption, hS⟩)
set_option maxRecDepth 100000 in
set_option maxHeartbeats 4000000 in
theorem pdq64_any (w : World) (A : Option Addr) (n c k : Nat) (s : List Nat) (hl : s.length = n) (hn : n ≤ 12) (hS0 : St w (owns [row 53 1 A n c (s.map uv)]) [row 53 1 A n c (s.map uv)] w) :
    Gives Try.prog 53 [.slice A n c, .int .i64 (0 : Int), .int .i64 (n : Int), .int .i64 (k : Int)] [row 53 1 A n c (s.map uv)] w (X := List Nat) (fun _ => .tuple #[]) (fun x => x.Perm s ∧ x.Pairwise (· ≤ ·)) (fun x => [row 53 1 A n c (x.map uv)]) := by
  refine gives_S (rs := []) Try.func53 rfl Try.ntmps53 Try.results53 (by simp) hS0 (fun B hB => ?_)
  focus (refine S_seq rfl ?_; refine S_region rfl rfl ?_; refine R_p rfl ?_ rfl rfl; refine R_nil ?_; refine S_seq rfl ?_; refine S_region rfl rfl ?_; refine R_p rfl ?_ rfl rfl; refine R_nil ?_; refine S_block rfl ?_)
  refine S_loop (X := Unit) (fun _ => [(0, .slice A n c), (1, .int .i64 (0 : Int)), (2, .int .i64 (n : Int))]) (fun _ => [row 53 1 A n c (s.map uv)]) (fun _ => True) (fun _ => 0) rfl () trivial (Sub.cons rfl (Sub.cons rfl (Sub.cons rfl Sub.nil))) (fun _ h => h) ?_
  rintro _ _ J hJ
  focus (refine S_block rfl ?_; refine S_seq rfl ?_; refine S_region rfl rfl ?_; refine R_p rfl ?_ rfl rfl; refine R_p rfl ?_ rfl rfl; refine R_take (T_sum rfl rfl rfl (by unfold fits; omega)) ?_ rfl rfl; refine R_p rfl ?_ rfl rfl; refine R_nil ?_; refine S_seq rfl ?_; refine S_seq rfl ?_; refine S_region rfl rfl ?_; refine R_p rfl ?_ rfl rfl; refine R_take (T_decT rfl (by omega)) ?_ rfl rfl; refine R_nil ?_; refine S_true rfl rfl ?_; refine S_seq rfl ?_; refine S_region rfl rfl ?_; refine R_p rfl ?_ rfl rfl; refine R_p rfl ?_ rfl rfl; refine R_p rfl ?_ rfl rfl; (refine R_eff (E_gt1 (f := 58) ⟨_, Try.func58, rfl, by kernel_rfl⟩ rfl (fun w hS hS2 => ins64_any w A n c s hl hn hS2) (fun _ => rfl)) ?_ rfl rfl; rintro _ _ ⟨x, rfl, hx, rfl⟩); refine R_nil ?_)
  refine hB _ _ _ _ _ rfl rfl fun w' hS => ⟨x, rfl, hx, hS⟩
set_option maxRecDepth 100000 in
set_option maxHeartbeats 4000000 in
theorem sort64_any (w : World) (A : Option Addr) (n c : Nat) (s : List Nat) (hl : s.length = n) (hn : n ≤ 12) (hS0 : St w (owns [row 53 1 A n c (s.map uv)]) [row 53 1 A n c (s.map uv)] w) :
    Gives Try.prog 47 [.slice A n c] [row 53 1 A n c (s.map uv)] w (X := List Nat) (fun _ => .tuple #[]) (fun x => x.Perm s ∧ x.Pairwise (· ≤ ·)) (fun x => [row 53 1 A n c (x.map uv)]) := by
  refine gives_N Try.func47 rfl Try.ntmps47 Try.results47 (by simp) hS0 (fun B hB => ?_)
  focus (refine S_seq rfl ?_; refine S_region rfl rfl ?_; refine R_p rfl ?_ rfl rfl; refine R_p rfl ?_ rfl rfl; refine R_p rfl ?_ rfl rfl; refine R_nil ?_; refine S_region rfl rfl ?_; refine R_p rfl ?_ rfl rfl; refine R_p rfl ?_ rfl rfl; refine R_p rfl ?_ rfl rfl; refine R_take (T_convf rfl rfl rfl rfl (by unfold fits; omega)) ?_ rfl rfl; (refine R_eff (E_gv0 (f := 54) ⟨_, Try.func54, rfl, by kernel_rfl⟩ rfl (fun w hS => len_any w n (by omega)) (fun _ => rfl)) ?_ rfl rfl; rintro _ _ ⟨k, rfl, hk, rfl⟩); (refine R_eff (E_gt1 (f := 53) ⟨_, Try.func53, rfl, by kernel_rfl⟩ rfl (fun w hS hS2 => pdq64_any w A n c k s hl hn hS2) (fun _ => rfl)) ?_ rfl rfl; rintro _ _ ⟨x, rfl, hx, rfl⟩); refine R_nil ?_)
  refine hB _ _ fun w' hS => ⟨x, hx, hS⟩
set_option maxRecDepth 100000 in
set_option maxHeartbeats 4000000 in
theorem agr_any (w : World) (A A2 : Option Addr) (n c n2 c2' : Nat) (ms : List Int) (L : List (Int × Nat)) (h : Rd w All 1 A n (ms.map zv)) (h2 : Rd w All 2 A2 n2 (mtc L)) (hn : n ≤ 900) (hn2 : n2 ≤ 900) :
    Gives Try.prog 32 [cfv A n c, .slice A2 n2 c2'] [] w (X := Nat) uv (fun x => if right ms then IsAg (ms.map (idxN L)) x else x = 0) (fun _ => []) := by
  refine gives_S Try.func32 rfl Try.ntmps32 Try.results32 (by simp) (St.enter w) (fun B hB => ?_)
  have hl : ms.length = n := by have := h.1; simpa using this
  have hne : 0 < n → A ≠ none := fun h0 => by obtain ⟨ad, rfl, _⟩ := h.2 h0; simp
  have hl2 : L.length = n2 := by have := h2.1; rw [mtc_len] at this; omega
  have hne2 : 0 < n2 → A2 ≠ none := fun h0 => by obtain ⟨ad, rfl, _⟩ := h2.2 h0; simp
  subst hl hl2
  have hld : ∀ j, j < ms.length → (ms.map zv)[j]? = some (zv (ms.getD j 0)) := fun j hj => zv_at hj
  cases hrt : right ms
  · obtain ⟨e, he, he0⟩ : ∃ e, chkE ms = e ∧ e ≠ 0 := ⟨_, rfl, by rw [chkE, hrt]; decide⟩
    focus (refine S_seq rfl ?_; refine S_region rfl rfl ?_; (refine R_eff (E_boxa rfl) ?_ rfl rfl; rintro _ _ ⟨b, rfl, rfl⟩); refine R_p rfl ?_ rfl rfl; refine R_nil ?_; refine S_seq rfl ?_; refine S_seq rfl ?_; refine S_region rfl rfl ?_; refine R_take (T_loada (ds := [.slice A ms.length c]) rfl rfl rfl rfl (fun j v h => by simpa using h)) ?_ rfl rfl; (refine R_eff (E_chkW rfl (Srd.old h (fun k _ => noOwns k)) hn he) ?_ rfl rfl; rintro _ _ ⟨rfl, rfl⟩); refine R_take (T_decT rfl he0) ?_ rfl rfl; refine R_nil ?_; refine S_true rfl rfl ?_; refine S_seq rfl ?_; refine S_region rfl rfl ?_; refine R_p rfl ?_ rfl rfl; refine R_nil ?_)
    refine hB _ _ _ _ _ rfl rfl fun w' hS => ⟨0, rfl, by simp [hrt], hS.sublist (List.nil_sublist _)⟩
  obtain ⟨hm1, hm5⟩ := right_len hrt
  have he : chkE ms = 0 := by rw [chkE, hrt]; rfl
  focus (refine S_seq rfl ?_; refine S_region rfl rfl ?_; (refine R_eff (E_boxa rfl) ?_ rfl rfl; rintro _ _ ⟨b, rfl, rfl⟩); refine R_p rfl ?_ rfl rfl; refine R_nil ?_; refine S_seq rfl ?_; refine S_seq rfl ?_; refine S_region rfl rfl ?_; refine R_take (T_loada (ds := [.slice A ms.length c]) rfl rfl rfl rfl (fun j v h => by simpa using h)) ?_ rfl rfl; (refine R_eff (E_chkW rfl (Srd.old h (fun k _ => noOwns k)) hn he) ?_ rfl rfl; rintro _ _ ⟨rfl, rfl⟩); refine R_take (T_decF rfl (by simp)) ?_ rfl rfl; refine R_nil ?_; refine S_false rfl rfl ?_; refine S_skip rfl ?_; refine S_seq rfl ?_; refine S_region rfl rfl ?_; refine R_p rfl ?_ rfl rfl; refine R_nil ?_; refine S_seq rfl ?_; refine S_seq rfl ?_; refine S_region rfl rfl ?_; refine R_p rfl ?_ rfl rfl; refine R_take (T_load rfl rfl rfl (by first | rfl | assumption)) ?_ rfl rfl; refine R_p rfl ?_ rfl rfl; refine R_p rfl ?_ rfl rfl; refine R_nil ?_; refine S_block rfl ?_)
  refine S_loop (X := Nat × Option Addr × Nat) (fun y => [(1, .slice A2 L.length c2'), (5, .slice y.2.1 y.1 y.2.2), (15, .slice A ms.length c), (16, .int .i64 (ms.length : Int)), (17, .int .i64 (y.1 : Int))]) (fun y => [row 53 1 y.2.1 y.1 y.2.2 (((ms.take y.1).map (idxN L)).map uv)]) (fun y => y.1 ≤ ms.length) (fun y => ms.length - y.1) rfl (0, none, 0) (Nat.zero_le _) (Sub.cons rfl (Sub.cons rfl (Sub.cons rfl (Sub.cons rfl (Sub.cons rfl Sub.nil))))) (fun w hS => (hS.nilrow _ _).sublist (.cons_cons _ (List.nil_sublist _))) ?_
  rintro ⟨j, A3, c3⟩ hj J hJ
  simp only at hj ⊢
  rcases Nat.lt_or_ge j ms.length with hjl | hjl
  rotate_left
  · have hjn : j = ms.length := by omega
    subst hjn
    rw [List.take_length]
    obtain ⟨vs, hvs⟩ : ∃ vs, ms.map (idxN L) = vs := ⟨_, rfl⟩
    rw [hvs]
    have hvl : vs.length = ms.length := by rw [← hvs]; simp
    refine RS_row A3 ms.length c3 fun hmc hcm hne3 hxl => ?_
    have hne3 := hne3 (by omega)
    focus (refine S_seq rfl ?_; refine S_region rfl rfl ?_; refine R_take (T_decF rfl (by omega)) ?_ rfl rfl; refine R_nil ?_; refine S_seq rfl ?_; refine S_false rfl rfl ?_; refine S_exit rfl rfl ?_; refine S_seq rfl ?_; refine S_region rfl rfl ?_; refine R_p rfl ?_ rfl rfl; (refine R_eff (E_gt1 (f := 47) ⟨_, Try.func47, rfl, by kernel_rfl⟩ rfl (fun w hS hS2 => sort64_any w A3 ms.length c3 vs hvl (by omega) hS2) (fun _ => rfl)) ?_ rfl rfl; rintro _ _ ⟨s, rfl, ⟨hsp, hss⟩, rfl⟩); refine R_nil ?_; refine S_seq rfl ?_; refine S_region rfl rfl ?_; refine R_p rfl ?_ rfl rfl; refine R_p rfl ?_ rfl rfl; refine R_p rfl ?_ rfl rfl; refine R_take (T_subN rfl rfl (by omega) (by unfold fits; omega)) ?_ rfl rfl; refine R_take (T_divN rfl rfl (by omega) (by unfold fits; omega)) ?_ rfl rfl; refine R_take (T_ixN rfl rfl rfl rfl rfl rfl (by first | assumption | exact hne (by omega) | exact hne2 (by omega)) (by omega)) ?_ rfl rfl)
    have hsl : s.length = ms.length := by rw [hsp.length_eq, hvl]
    have hat := uv_at (s := s) (j := (ms.length - 1) / 2) (by omega)
    focus (refine R_take (T_ldr rfl rfl rfl (Srd.row (n := ms.length) (c := c3)) (by omega) hat) ?_ rfl rfl; refine R_p rfl ?_ rfl rfl; refine R_nil ?_)
    refine hB _ _ _ _ _ rfl rfl fun w' hS => ⟨s.getD ((ms.length - 1) / 2) 0, rfl, ?_, hS.sublist (List.nil_sublist _)⟩
    rw [hrt, if_pos rfl, hvs, ← hsl]
    exact sort_ag hsp hss (by omega)
  have hld' := hld j hjl
  have hnj : (ms.take (j + 1)).map (idxN L) = (ms.take j).map (idxN L) ++ [idxN L (ms.getD j 0)] := by
    rw [List.take_succ_eq_append_getElem hjl, List.map_append]
    simp [List.getD, hjl]
  obtain ⟨x, hx⟩ : ∃ x, ms.getD j 0 = x := ⟨_, rfl⟩
  rw [hx] at hld' hnj
  obtain ⟨R, hR⟩ : ∃ R, (ms.take j).map (idxN L) = R := ⟨_, rfl⟩
  have hRl : R.length = j := by rw [← hR, List.length_map, List.length_take]; omega
  rw [hR] at hnj ⊢
  focus (refine S_seq rfl ?_; refine S_region rfl rfl ?_; refine R_take (T_decT rfl (by omega)) ?_ rfl rfl; refine R_nil ?_; refine S_seq rfl ?_; refine S_true rfl rfl ?_; refine S_skip rfl ?_; refine S_seq rfl ?_; refine S_block rfl ?_; refine S_seq rfl ?_; refine S_region rfl rfl ?_; refine R_take (T_ixN rfl rfl rfl rfl rfl rfl (by first | assumption | exact hne (by omega) | exact hne2 (by omega)) (by omega)) ?_ rfl rfl; refine R_take (T_ldr rfl rfl rfl (Srd.old h (fun k _ => noOwns k)) (by omega) hld') ?_ rfl rfl; refine R_p rfl ?_ rfl rfl; refine R_nil ?_; refine S_seq rfl ?_; refine S_region rfl rfl ?_; refine R_p rfl ?_ rfl rfl; refine R_nil ?_; refine S_seq rfl ?_; refine S_seq rfl ?_; refine S_region rfl rfl ?_; refine R_p rfl ?_ rfl rfl; refine R_p rfl ?_ rfl rfl; refine R_p rfl ?_ rfl rfl; refine R_nil ?_; refine S_block rfl ?_)
  refine S_loop (X := Nat) (fun k => [(1, .slice A2 L.length c2'), (5, .slice A3 j c3), (7, zv x), (8, uv (idxN (L.take k) x)), (15, .slice A ms.length c), (16, .int .i64 (ms.length : Int)), (17, .int .i64 (j : Int)), (21, .slice A2 L.length c2'), (22, .int .i64 (L.length : Int)), (23, .int .i64 (k : Int))]) (fun _ => [row 53 1 A3 j c3 (R.map uv)]) (fun k => k ≤ L.length) (fun k => L.length - k) rfl 0 (Nat.zero_le _) (Sub.cons rfl (Sub.cons rfl (Sub.cons rfl (Sub.cons rfl (Sub.cons rfl (Sub.cons rfl (Sub.cons rfl (Sub.cons rfl (Sub.cons rfl (Sub.cons rfl Sub.nil)))))))))) (fun _ h => h) ?_
  rintro k hk J2 hJ2
  rcases Nat.lt_or_ge k L.length with hkl | hkl
  rotate_left
  · have hkn : k = L.length := by omega
    subst hkn
    rw [List.take_length]
    obtain ⟨v, hv⟩ : ∃ v, idxN L x = v := ⟨_, rfl⟩
    rw [hv] at hnj ⊢
    focus (refine S_seq rfl ?_; refine S_region rfl rfl ?_; refine R_take (T_decF rfl (by omega)) ?_ rfl rfl; refine R_nil ?_; refine S_seq rfl ?_; refine S_false rfl rfl ?_; refine S_exit rfl rfl ?_; refine S_region rfl rfl ?_; refine R_p rfl ?_ rfl rfl; refine R_p rfl ?_ rfl rfl; (refine R_eff (E_lit1 (m := 1) (vs := [uv v]) rfl rfl rfl rfl rfl rfl rfl (by simp [uv, Value.oneCell']) (by decide)) ?_ rfl rfl; rintro _ _ ⟨bx, rfl, rfl⟩); (refine R_eff (E_app1 rfl rfl rfl rfl rfl rfl rfl (Srd.pt (ds := [uv v]) rfl (fun j u hj => by rw [Nat.zero_add]; exact hj)) (by simp [uv, Value.oneCell']) (by show _ * 8 ≤ _; omega) (by unfold maxLen; omega)) ?_ rfl rfl; rintro _ _ ⟨A7, c7, rfl, rfl⟩); refine R_p rfl ?_ rfl rfl; refine R_nil ?_; refine RS_blk ?_; refine S_region rfl rfl ?_; refine R_take (T_addN rfl rfl (by unfold fits; omega)) ?_ rfl rfl; refine R_p rfl ?_ rfl rfl; refine R_nil ?_)
    refine hJ (j + 1, A7, c7) _ _ (by show j + 1 ≤ _; omega) (Sub.cons rfl (Sub.cons rfl (Sub.cons rfl (Sub.cons rfl (Sub.cons rfl Sub.nil))))) (fun w' hS => ?_) (by show ms.length - (j + 1) < _; omega)
    dsimp only
    rw [hnj, List.map_append]
    exact hS.sublist (.cons_cons _ (List.nil_sublist _))
  have hnx := idx_next L x k hkl
  have hat := mtc_at L k hkl
  obtain ⟨⟨a, v⟩, hx2⟩ : ∃ x, L.getD k (0, 0) = x := ⟨_, rfl⟩
  obtain ⟨q, hq⟩ : ∃ q, idxN (L.take k) x = q := ⟨_, rfl⟩
  rw [hx2, hq] at hnx
  rw [hx2] at hat
  rw [hq]
  dsimp only at hnx hat
  by_cases ham : a = x
  · rw [if_pos ham] at hnx
    focus (refine S_seq rfl ?_; refine S_region rfl rfl ?_; refine R_take (T_decT rfl (by omega)) ?_ rfl rfl; refine R_nil ?_; refine S_seq rfl ?_; refine S_true rfl rfl ?_; refine S_skip rfl ?_; refine S_seq rfl ?_; refine S_block rfl ?_; refine S_seq rfl ?_; refine S_region rfl rfl ?_; refine R_take (T_ix rfl rfl rfl rfl rfl (hne2 (by omega)) (by omega)) ?_ rfl rfl; refine R_take (T_loadoa (ds := [zv a, uv v]) rfl rfl rfl h2 rfl (by omega) hat (fun k _ => noOwns k)) ?_ rfl rfl; (refine R_eff (E_alloca rfl mt_alloc) ?_ rfl rfl; rintro _ _ ⟨b7, rfl, rfl⟩); (refine R_eff0 (E_storew (cs := [zv 0, uv 0]) rfl rfl rfl rfl (mt_one _ _) rfl) ?_ rfl; rintro _ _ rfl); refine R_nil ?_; refine S_seq rfl ?_; refine S_region rfl rfl ?_; refine R_p rfl ?_ rfl rfl; refine R_take (T_load rfl rfl rfl (by first | rfl | assumption)) ?_ rfl rfl; refine R_p rfl ?_ rfl rfl; refine R_take (T_decT rfl (by omega)) ?_ rfl rfl; refine R_nil ?_; refine S_true rfl rfl ?_; refine S_region rfl rfl ?_; refine R_p rfl ?_ rfl rfl; refine R_p rfl ?_ rfl rfl; refine R_take (T_load rfl rfl rfl (by first | rfl | assumption)) ?_ rfl rfl; refine R_take (T_maxN rfl rfl) ?_ rfl rfl; refine R_p rfl ?_ rfl rfl; refine R_nil ?_; refine RS_blk ?_; refine S_region rfl rfl ?_; refine R_take (T_addN rfl rfl (by unfold fits; omega)) ?_ rfl rfl; refine R_p rfl ?_ rfl rfl; refine R_nil ?_)
    refine hJ2 (k + 1) _ _ (by omega) ?_ (fun _ hS => hS.sublist (.cons _ (.refl _))) (by omega)
    rw [hnx]
    exact (Sub.cons rfl (Sub.cons rfl (Sub.cons rfl (Sub.cons rfl (Sub.cons rfl (Sub.cons rfl (Sub.cons rfl (Sub.cons rfl (Sub.cons rfl (Sub.cons rfl Sub.nil))))))))))
  · rw [if_neg ham] at hnx
    focus (refine S_seq rfl ?_; refine S_region rfl rfl ?_; refine R_take (T_decT rfl (by omega)) ?_ rfl rfl; refine R_nil ?_; refine S_seq rfl ?_; refine S_true rfl rfl ?_; refine S_skip rfl ?_; refine S_seq rfl ?_; refine S_block rfl ?_; refine S_seq rfl ?_; refine S_region rfl rfl ?_; refine R_take (T_ix rfl rfl rfl rfl rfl (hne2 (by omega)) (by omega)) ?_ rfl rfl; refine R_take (T_loadoa (ds := [zv a, uv v]) rfl rfl rfl h2 rfl (by omega) hat (fun k _ => noOwns k)) ?_ rfl rfl; (refine R_eff (E_alloca rfl mt_alloc) ?_ rfl rfl; rintro _ _ ⟨b7, rfl, rfl⟩); (refine R_eff0 (E_storew (cs := [zv 0, uv 0]) rfl rfl rfl rfl (mt_one _ _) rfl) ?_ rfl; rintro _ _ rfl); refine R_nil ?_; refine S_seq rfl ?_; refine S_region rfl rfl ?_; refine R_p rfl ?_ rfl rfl; refine R_take (T_load rfl rfl rfl (by first | rfl | assumption)) ?_ rfl rfl; refine R_p rfl ?_ rfl rfl; refine R_take (T_decF rfl ham) ?_ rfl rfl; refine R_nil ?_; refine S_false rfl rfl ?_; refine S_skip rfl ?_; refine RS_blk ?_; refine S_region rfl rfl ?_; refine R_take (T_addN rfl rfl (by unfold fits; omega)) ?_ rfl rfl; refine R_p rfl ?_ rfl rfl; refine R_nil ?_)
    refine hJ2 (k + 1) _ _ (by omega) ?_ (fun _ hS => hS.sublist (.cons _ (.refl _))) (by omega)
    rw [hnx]
    exact (Sub.cons rfl (Sub.cons rfl (Sub.cons rfl (Sub.cons rfl (Sub.cons rfl (Sub.cons rfl (Sub.cons rfl (Sub.cons rfl (Sub.cons rfl (Sub.cons rfl Sub.nil))))))))))
end Go.Proofs.Ytlihhjldkopfhaa
