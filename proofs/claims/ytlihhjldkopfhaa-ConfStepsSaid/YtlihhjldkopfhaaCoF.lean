/- The statement ConfSteps: which members may be, are the same, or one step apart. -/
import Derived.Test.YtlihhjldkopfhaaRkC
import Derived.Test.YtlihhjldkopfhaaCoG
namespace Go.Proofs.Ytlihhjldkopfhaa
open Go.RowKit
open Asn (pt row rb)
set_option linter.unusedVariables false
set_option linter.unusedSimpArgs false
--@use N

/-- what Step must say -/
def noE (a b : List Int) : Int := if right a && right b then (if farN a b > 1 then 241 else 0) else 240
theorem stp_no (a b : List Int) : stpE b a = noE a b := by
  unfold stpE noE
  cases hb : right b <;> cases ha : right a <;> simp only [Bool.and_false, Bool.false_and, Bool.and_self, Bool.false_eq_true, if_false, if_true]
  have e : lackN b a + lackN a b = farN a b := by
    rw [lackN, lackN, farN, ha, hb]
    simp only [Bool.true_and]
    omega
  rw [e]
set_option maxRecDepth 100000 in
set_option maxHeartbeats 4000000 in
theorem steps_any (w : World) (A : Option Addr) (n c : Nat) (K : List Cf) (h : Rd w All 1 A n (K.map Cf.v)) (hc : n ≤ c) (hcm : c ≤ maxLen) (hK : ∀ k ∈ K, k.ok w) :
    Gives Try.prog 5 [.slice A n c] [] w (X := Unit) (fun _ => .bool true) (fun _ => True) (fun _ => []) := by
  refine gives_S Try.func5 rfl Try.ntmps5 Try.results5 (by simp) (St.enter w) (fun B hB => ?_)
  have hl : K.length = n := by have := h.1; simpa using this
  have hne : 0 < n → A ≠ none := fun h0 => by obtain ⟨ad, rfl, _⟩ := h.2 h0; simp
  subst hl
  unfold maxLen at hcm
  focus (refine S_seq rfl ?_; refine S_region rfl rfl ?_; refine R_p rfl ?_ rfl rfl; refine R_nil ?_; refine S_seq rfl ?_; refine S_seq rfl ?_; refine S_region rfl rfl ?_; (refine R_eff (E_gv0 (f := 10) ⟨_, Try.func10, rfl, by kernel_rfl⟩ rfl (fun w hS => wakes_any w) (fun _ => rfl)) ?_ rfl rfl; rintro _ _ ⟨_, rfl, _, rfl⟩); refine R_take (T_not rfl) ?_ rfl rfl; refine R_nil ?_; refine S_false rfl rfl ?_; refine S_skip rfl ?_; refine S_seq rfl ?_; refine S_seq rfl ?_; refine S_region rfl rfl ?_; refine R_p rfl ?_ rfl rfl; refine R_p rfl ?_ rfl rfl; refine R_p rfl ?_ rfl rfl; refine R_nil ?_; refine S_block rfl ?_)
  refine S_loop (X := Nat) (fun j => [(0, .slice A K.length c), (13, .slice A K.length c), (14, .int .i64 (K.length : Int)), (15, .int .i64 (j : Int))]) (fun _ => []) (fun j => j ≤ K.length ∧ j ≤ 16) (fun j => K.length - j) rfl 0 ⟨Nat.zero_le _, by omega⟩ (Sub.cons rfl (Sub.cons rfl (Sub.cons rfl (Sub.cons rfl Sub.nil)))) (fun _ h => h) ?_
  rintro j ⟨hj, hj16⟩ J hJ
  rcases Nat.lt_or_ge j K.length with hjl | hjl
  rotate_left
  · skip
    focus (refine S_seq rfl ?_; refine S_region rfl rfl ?_; refine R_take (T_decF rfl (by omega)) ?_ rfl rfl; refine R_nil ?_; refine S_seq rfl ?_; refine S_false rfl rfl ?_; refine S_exit rfl rfl ?_; refine S_seq rfl ?_; refine S_region rfl rfl ?_; refine R_p rfl ?_ rfl rfl; refine R_nil ?_)
    refine hB _ _ _ _ _ rfl rfl fun w' hS => ⟨(), rfl, trivial, hS.sublist (List.nil_sublist _)⟩
  obtain ⟨k, hk⟩ : ∃ k, K[j] = k := ⟨_, rfl⟩
  obtain ⟨k0, hk0⟩ : ∃ k0, K[0]'(by omega) = k0 := ⟨_, rfl⟩
  have hld : (K.map Cf.v)[j]? = some k.v := by simp [hk, hjl]
  have hld0 : (K.map Cf.v)[0]? = some k0.v := by simp [hk0, show 0 < K.length by omega]
  obtain ⟨hr, hnc, hcm1⟩ := hK k (hk ▸ List.getElem_mem _)
  obtain ⟨hr0, hnc0, hcm0⟩ := hK k0 (hk0 ▸ List.getElem_mem _)
  have hld' : ∀ e v, [k.v][e]? = some v → (K.map Cf.v)[j + e]? = some v := fun e v he => by
    cases e with
    | zero => rw [Nat.add_zero, hld]; exact he
    | succ e => simp at he
  have hld0' : ∀ e v, [k0.v][e]? = some v → (K.map Cf.v)[0 + e]? = some v := fun e v he => by
    cases e with
    | zero => rw [Nat.add_zero, hld0]; exact he
    | succ e => simp at he
  focus (refine S_seq rfl ?_; refine S_region rfl rfl ?_; refine R_take (T_decT rfl (by omega)) ?_ rfl rfl; refine R_nil ?_; refine S_seq rfl ?_; refine S_true rfl rfl ?_; refine S_skip rfl ?_; refine S_seq rfl ?_; refine S_block rfl ?_; refine S_seq rfl ?_; refine S_region rfl rfl ?_; refine R_p rfl ?_ rfl rfl; refine R_take (T_ixN rfl rfl rfl rfl rfl rfl (by first | assumption | exact hne (by omega) | exact hne2 (by omega)) (by omega)) ?_ rfl rfl; refine R_take (T_loadoa (ds := [k.v]) rfl rfl rfl h rfl (by omega) hld' (fun k _ => noOwns k)) ?_ rfl rfl; (refine R_eff (E_alloca rfl cf_alloc) ?_ rfl rfl; rintro _ _ ⟨b4, rfl, rfl⟩); refine R_p rfl ?_ rfl rfl; (refine R_eff0 (E_storew (cs := [.slice none 0 0]) rfl rfl rfl rfl (sl_one _ _ _) rfl) ?_ rfl; rintro _ _ rfl); refine R_nil ?_; refine S_seq rfl ?_; refine S_seq rfl ?_; refine S_region rfl rfl ?_; refine R_p rfl ?_ rfl rfl; refine R_p rfl ?_ rfl rfl; refine R_nil ?_; (refine S_if rfl rfl (fun hs => ?_) (fun hs => ?_)); refine S_exit rfl rfl ?_; refine S_seq rfl ?_; refine S_region rfl rfl ?_; refine R_p rfl ?_ rfl rfl; refine R_nil ?_; rotate_left; refine S_skip rfl ?_; refine S_seq rfl ?_; rotate_left)
  · refine hB _ _ _ _ _ rfl rfl fun w' hS => ⟨(), rfl, trivial, hS.sublist (List.nil_sublist _)⟩
  obtain ⟨a, ha⟩ : ∃ a, k.ms.take 9 = a := ⟨_, rfl⟩
  obtain ⟨b, hb⟩ : ∃ b, k0.ms.take 9 = b := ⟨_, rfl⟩
  have ha9 : a.length ≤ 900 := ha ▸ take9 _
  have hb9 : b.length ≤ 900 := hb ▸ take9 _
  refine S_cut (X := Nat × Nat × Nat × Nat) (fun x => [(0, .slice A K.length c), (13, .slice A K.length c), (14, .int .i64 (K.length : Int)), (15, .int .i64 (j : Int)), (4, .pointer (some ⟨b4, 0, none⟩)), (5, .pointer (some ⟨x.2.2.1, 0, none⟩)), (6, .pointer (some ⟨x.2.2.2, 0, none⟩))]) (fun x => [pt x.1 3 (wide a), pt x.2.1 3 (wide b), pt x.2.2.1 24 [.slice (some ⟨x.1, 0, none⟩) a.length (a.length + 2)], pt x.2.2.2 24 [.slice (some ⟨x.2.1, 0, none⟩) b.length (b.length + 2)], pt b4 24 [k.v]]) (fun _ => True) (fun J hJ => ?_) (fun x _ => ?_)
  · skip
    refine S_draw (_) (fun _ h => h) (by kernel_rfl) rfl (by kernel_rfl) (by kernel_rfl : _ = 10) ?_
    refine D_take 0 rfl (T_loada (ds := [k.v]) rfl rfl rfl rfl (fun j v h => by simpa using h)) ?_ rfl rfl (by kernel_rfl) (by kernel_rfl)
    refine D_take 2 rfl (pev_ok rfl) ?_ rfl rfl (by kernel_rfl) (by kernel_rfl)
    refine D_take 3 rfl (T_ixN rfl rfl rfl rfl rfl rfl (by first | assumption | exact hne (by omega) | exact hne2 (by omega)) (by omega)) ?_ rfl rfl (by kernel_rfl) (by kernel_rfl)
    refine D_take 4 rfl (T_loadoa (ds := [k0.v]) rfl rfl rfl h rfl (by omega) hld0' (fun k _ => noOwns k)) ?_ rfl rfl (by kernel_rfl) (by kernel_rfl)
    refine D_three 1 6 7 rfl rfl rfl (E_short (A := k.A) (m := k.n) (c := k.c) rfl (Srd.old hr (fun k _ => noOwns k)) hnc hcm1 ha) (E_alloca rfl cf_alloc) (E_alloca rfl cf_alloc) ?_ ?_ ?_ rfl rfl rfl rfl rfl rfl (by kernel_rfl)
    · rintro _ _ ⟨ga, rfl, rfl⟩
      refine Nx_same sub_st ?_
      refine D_three 5 6 7 rfl rfl rfl (E_short (A := k0.A) (m := k0.n) (c := k0.c) rfl (Srd.old hr0 (fun k _ => noOwns k)) hnc0 hcm0 hb) (E_alloca rfl cf_alloc) (E_alloca rfl cf_alloc) ?_ ?_ ?_ rfl rfl rfl rfl rfl rfl (by kernel_rfl)
      · rintro _ _ ⟨gb, rfl, rfl⟩
        refine Nx_same sub_st ?_
        refine D_two 6 7 (by decide) rfl rfl (E_alloca rfl cf_alloc) (E_alloca rfl cf_alloc) ?_ ?_ rfl rfl rfl rfl (by kernel_rfl)
        · rintro _ _ ⟨b5, rfl, rfl⟩
          refine Nx_same sub_st ?_
          refine D_one 7 rfl (E_alloca rfl cf_alloc) ?_ rfl rfl (by kernel_rfl)
          rintro _ _ ⟨b6, rfl, rfl⟩
          refine Nx_same sub_st ?_
          refine D_one 8 rfl (E_storew (cs := [.slice none 0 0]) rfl rfl rfl rfl (sl_one _ _ _) rfl) ?_ rfl rfl (by kernel_rfl)
          rintro _ _ rfl
          refine Nx_same sub_st ?_
          refine D_one 9 rfl (E_storew (cs := [.slice none 0 0]) rfl rfl rfl rfl (sl_one _ _ _) rfl) ?_ rfl rfl (by kernel_rfl)
          rintro _ _ rfl
          refine Nx_same sub_st ?_
          refine D_done ?_ (by kernel_rfl)
          exact hJ (ga, gb, b5, b6) _ _ trivial (Sub.cons rfl (Sub.cons rfl (Sub.cons rfl (Sub.cons rfl (Sub.cons rfl (Sub.cons rfl (Sub.cons rfl Sub.nil))))))) sub_st
        · rintro _ _ ⟨b6, rfl, rfl⟩
          refine Nx_same sub_st ?_
          refine D_one 6 rfl (E_alloca rfl cf_alloc) ?_ rfl rfl (by kernel_rfl)
          rintro _ _ ⟨b5, rfl, rfl⟩
          refine Nx_same sub_st ?_
          refine D_one 8 rfl (E_storew (cs := [.slice none 0 0]) rfl rfl rfl rfl (sl_one _ _ _) rfl) ?_ rfl rfl (by kernel_rfl)
          rintro _ _ rfl
          refine Nx_same sub_st ?_
          refine D_one 9 rfl (E_storew (cs := [.slice none 0 0]) rfl rfl rfl rfl (sl_one _ _ _) rfl) ?_ rfl rfl (by kernel_rfl)
          rintro _ _ rfl
          refine Nx_same sub_st ?_
          refine D_done ?_ (by kernel_rfl)
          exact hJ (ga, gb, b5, b6) _ _ trivial (Sub.cons rfl (Sub.cons rfl (Sub.cons rfl (Sub.cons rfl (Sub.cons rfl (Sub.cons rfl (Sub.cons rfl Sub.nil))))))) sub_st
      · rintro _ _ ⟨b5, rfl, rfl⟩
        refine Nx_same sub_st ?_
        refine D_two 5 7 (by decide) rfl rfl (E_short (A := k0.A) (m := k0.n) (c := k0.c) rfl (Srd.old hr0 (fun k _ => noOwns k)) hnc0 hcm0 hb) (E_alloca rfl cf_alloc) ?_ ?_ rfl rfl rfl rfl (by kernel_rfl)
        · rintro _ _ ⟨gb, rfl, rfl⟩
          refine Nx_same sub_st ?_
          refine D_one 7 rfl (E_alloca rfl cf_alloc) ?_ rfl rfl (by kernel_rfl)
          rintro _ _ ⟨b6, rfl, rfl⟩
          refine Nx_same sub_st ?_
          refine D_one 8 rfl (E_storew (cs := [.slice none 0 0]) rfl rfl rfl rfl (sl_one _ _ _) rfl) ?_ rfl rfl (by kernel_rfl)
          rintro _ _ rfl
          refine Nx_same sub_st ?_
          refine D_one 9 rfl (E_storew (cs := [.slice none 0 0]) rfl rfl rfl rfl (sl_one _ _ _) rfl) ?_ rfl rfl (by kernel_rfl)
          rintro _ _ rfl
          refine Nx_same sub_st ?_
          refine D_done ?_ (by kernel_rfl)
          exact hJ (ga, gb, b5, b6) _ _ trivial (Sub.cons rfl (Sub.cons rfl (Sub.cons rfl (Sub.cons rfl (Sub.cons rfl (Sub.cons rfl (Sub.cons rfl Sub.nil))))))) sub_st
        · rintro _ _ ⟨b6, rfl, rfl⟩
          refine Nx_same sub_st ?_
          refine D_one 5 rfl (E_short (A := k0.A) (m := k0.n) (c := k0.c) rfl (Srd.old hr0 (fun k _ => noOwns k)) hnc0 hcm0 hb) ?_ rfl rfl (by kernel_rfl)
          rintro _ _ ⟨gb, rfl, rfl⟩
          refine Nx_same sub_st ?_
          refine D_one 8 rfl (E_storew (cs := [.slice none 0 0]) rfl rfl rfl rfl (sl_one _ _ _) rfl) ?_ rfl rfl (by kernel_rfl)
          rintro _ _ rfl
          refine Nx_same sub_st ?_
          refine D_one 9 rfl (E_storew (cs := [.slice none 0 0]) rfl rfl rfl rfl (sl_one _ _ _) rfl) ?_ rfl rfl (by kernel_rfl)
          rintro _ _ rfl
          refine Nx_same sub_st ?_
          refine D_done ?_ (by kernel_rfl)
          exact hJ (ga, gb, b5, b6) _ _ trivial (Sub.cons rfl (Sub.cons rfl (Sub.cons rfl (Sub.cons rfl (Sub.cons rfl (Sub.cons rfl (Sub.cons rfl Sub.nil))))))) sub_st
      · rintro _ _ ⟨b6, rfl, rfl⟩
        refine Nx_same sub_st ?_
        refine D_two 5 6 (by decide) rfl rfl (E_short (A := k0.A) (m := k0.n) (c := k0.c) rfl (Srd.old hr0 (fun k _ => noOwns k)) hnc0 hcm0 hb) (E_alloca rfl cf_alloc) ?_ ?_ rfl rfl rfl rfl (by kernel_rfl)
        · rintro _ _ ⟨gb, rfl, rfl⟩
          refine Nx_same sub_st ?_
          refine D_one 6 rfl (E_alloca rfl cf_alloc) ?_ rfl rfl (by kernel_rfl)
          rintro _ _ ⟨b5, rfl, rfl⟩
          refine Nx_same sub_st ?_
          refine D_one 8 rfl (E_storew (cs := [.slice none 0 0]) rfl rfl rfl rfl (sl_one _ _ _) rfl) ?_ rfl rfl (by kernel_rfl)
          rintro _ _ rfl
          refine Nx_same sub_st ?_
          refine D_one 9 rfl (E_storew (cs := [.slice none 0 0]) rfl rfl rfl rfl (sl_one _ _ _) rfl) ?_ rfl rfl (by kernel_rfl)
          rintro _ _ rfl
          refine Nx_same sub_st ?_
          refine D_done ?_ (by kernel_rfl)
          exact hJ (ga, gb, b5, b6) _ _ trivial (Sub.cons rfl (Sub.cons rfl (Sub.cons rfl (Sub.cons rfl (Sub.cons rfl (Sub.cons rfl (Sub.cons rfl Sub.nil))))))) sub_st
        · rintro _ _ ⟨b5, rfl, rfl⟩
          refine Nx_same sub_st ?_
          refine D_one 5 rfl (E_short (A := k0.A) (m := k0.n) (c := k0.c) rfl (Srd.old hr0 (fun k _ => noOwns k)) hnc0 hcm0 hb) ?_ rfl rfl (by kernel_rfl)
          rintro _ _ ⟨gb, rfl, rfl⟩
          refine Nx_same sub_st ?_
          refine D_one 8 rfl (E_storew (cs := [.slice none 0 0]) rfl rfl rfl rfl (sl_one _ _ _) rfl) ?_ rfl rfl (by kernel_rfl)
          rintro _ _ rfl
          refine Nx_same sub_st ?_
          refine D_one 9 rfl (E_storew (cs := [.slice none 0 0]) rfl rfl rfl rfl (sl_one _ _ _) rfl) ?_ rfl rfl (by kernel_rfl)
          rintro _ _ rfl
          refine Nx_same sub_st ?_
          refine D_done ?_ (by kernel_rfl)
          exact hJ (ga, gb, b5, b6) _ _ trivial (Sub.cons rfl (Sub.cons rfl (Sub.cons rfl (Sub.cons rfl (Sub.cons rfl (Sub.cons rfl (Sub.cons rfl Sub.nil))))))) sub_st
    · rintro _ _ ⟨b5, rfl, rfl⟩
      refine Nx_same sub_st ?_
      refine D_two 1 7 (by decide) rfl rfl (E_short (A := k.A) (m := k.n) (c := k.c) rfl (Srd.old hr (fun k _ => noOwns k)) hnc hcm1 ha) (E_alloca rfl cf_alloc) ?_ ?_ rfl rfl rfl rfl (by kernel_rfl)
      · rintro _ _ ⟨ga, rfl, rfl⟩
        refine Nx_same sub_st ?_
        refine D_two 5 7 (by decide) rfl rfl (E_short (A := k0.A) (m := k0.n) (c := k0.c) rfl (Srd.old hr0 (fun k _ => noOwns k)) hnc0 hcm0 hb) (E_alloca rfl cf_alloc) ?_ ?_ rfl rfl rfl rfl (by kernel_rfl)
        · rintro _ _ ⟨gb, rfl, rfl⟩
          refine Nx_same sub_st ?_
          refine D_one 7 rfl (E_alloca rfl cf_alloc) ?_ rfl rfl (by kernel_rfl)
          rintro _ _ ⟨b6, rfl, rfl⟩
          refine Nx_same sub_st ?_
          refine D_one 8 rfl (E_storew (cs := [.slice none 0 0]) rfl rfl rfl rfl (sl_one _ _ _) rfl) ?_ rfl rfl (by kernel_rfl)
          rintro _ _ rfl
          refine Nx_same sub_st ?_
          refine D_one 9 rfl (E_storew (cs := [.slice none 0 0]) rfl rfl rfl rfl (sl_one _ _ _) rfl) ?_ rfl rfl (by kernel_rfl)
          rintro _ _ rfl
          refine Nx_same sub_st ?_
          refine D_done ?_ (by kernel_rfl)
          exact hJ (ga, gb, b5, b6) _ _ trivial (Sub.cons rfl (Sub.cons rfl (Sub.cons rfl (Sub.cons rfl (Sub.cons rfl (Sub.cons rfl (Sub.cons rfl Sub.nil))))))) sub_st
        · rintro _ _ ⟨b6, rfl, rfl⟩
          refine Nx_same sub_st ?_
          refine D_one 5 rfl (E_short (A := k0.A) (m := k0.n) (c := k0.c) rfl (Srd.old hr0 (fun k _ => noOwns k)) hnc0 hcm0 hb) ?_ rfl rfl (by kernel_rfl)
          rintro _ _ ⟨gb, rfl, rfl⟩
          refine Nx_same sub_st ?_
          refine D_one 8 rfl (E_storew (cs := [.slice none 0 0]) rfl rfl rfl rfl (sl_one _ _ _) rfl) ?_ rfl rfl (by kernel_rfl)
          rintro _ _ rfl
          refine Nx_same sub_st ?_
          refine D_one 9 rfl (E_storew (cs := [.slice none 0 0]) rfl rfl rfl rfl (sl_one _ _ _) rfl) ?_ rfl rfl (by kernel_rfl)
          rintro _ _ rfl
          refine Nx_same sub_st ?_
          refine D_done ?_ (by kernel_rfl)
          exact hJ (ga, gb, b5, b6) _ _ trivial (Sub.cons rfl (Sub.cons rfl (Sub.cons rfl (Sub.cons rfl (Sub.cons rfl (Sub.cons rfl (Sub.cons rfl Sub.nil))))))) sub_st
      · rintro _ _ ⟨b6, rfl, rfl⟩
        refine Nx_same sub_st ?_
        refine D_one 1 rfl (E_short (A := k.A) (m := k.n) (c := k.c) rfl (Srd.old hr (fun k _ => noOwns k)) hnc hcm1 ha) ?_ rfl rfl (by kernel_rfl)
        rintro _ _ ⟨ga, rfl, rfl⟩
        refine Nx_same sub_st ?_
        refine D_one 5 rfl (E_short (A := k0.A) (m := k0.n) (c := k0.c) rfl (Srd.old hr0 (fun k _ => noOwns k)) hnc0 hcm0 hb) ?_ rfl rfl (by kernel_rfl)
        rintro _ _ ⟨gb, rfl, rfl⟩
        refine Nx_same sub_st ?_
        refine D_one 8 rfl (E_storew (cs := [.slice none 0 0]) rfl rfl rfl rfl (sl_one _ _ _) rfl) ?_ rfl rfl (by kernel_rfl)
        rintro _ _ rfl
        refine Nx_same sub_st ?_
        refine D_one 9 rfl (E_storew (cs := [.slice none 0 0]) rfl rfl rfl rfl (sl_one _ _ _) rfl) ?_ rfl rfl (by kernel_rfl)
        rintro _ _ rfl
        refine Nx_same sub_st ?_
        refine D_done ?_ (by kernel_rfl)
        exact hJ (ga, gb, b5, b6) _ _ trivial (Sub.cons rfl (Sub.cons rfl (Sub.cons rfl (Sub.cons rfl (Sub.cons rfl (Sub.cons rfl (Sub.cons rfl Sub.nil))))))) sub_st
    · rintro _ _ ⟨b6, rfl, rfl⟩
      refine Nx_same sub_st ?_
      refine D_two 1 6 (by decide) rfl rfl (E_short (A := k.A) (m := k.n) (c := k.c) rfl (Srd.old hr (fun k _ => noOwns k)) hnc hcm1 ha) (E_alloca rfl cf_alloc) ?_ ?_ rfl rfl rfl rfl (by kernel_rfl)
      · rintro _ _ ⟨ga, rfl, rfl⟩
        refine Nx_same sub_st ?_
        refine D_two 5 6 (by decide) rfl rfl (E_short (A := k0.A) (m := k0.n) (c := k0.c) rfl (Srd.old hr0 (fun k _ => noOwns k)) hnc0 hcm0 hb) (E_alloca rfl cf_alloc) ?_ ?_ rfl rfl rfl rfl (by kernel_rfl)
        · rintro _ _ ⟨gb, rfl, rfl⟩
          refine Nx_same sub_st ?_
          refine D_one 6 rfl (E_alloca rfl cf_alloc) ?_ rfl rfl (by kernel_rfl)
          rintro _ _ ⟨b5, rfl, rfl⟩
          refine Nx_same sub_st ?_
          refine D_one 8 rfl (E_storew (cs := [.slice none 0 0]) rfl rfl rfl rfl (sl_one _ _ _) rfl) ?_ rfl rfl (by kernel_rfl)
          rintro _ _ rfl
          refine Nx_same sub_st ?_
          refine D_one 9 rfl (E_storew (cs := [.slice none 0 0]) rfl rfl rfl rfl (sl_one _ _ _) rfl) ?_ rfl rfl (by kernel_rfl)
          rintro _ _ rfl
          refine Nx_same sub_st ?_
          refine D_done ?_ (by kernel_rfl)
          exact hJ (ga, gb, b5, b6) _ _ trivial (Sub.cons rfl (Sub.cons rfl (Sub.cons rfl (Sub.cons rfl (Sub.cons rfl (Sub.cons rfl (Sub.cons rfl Sub.nil))))))) sub_st
        · rintro _ _ ⟨b5, rfl, rfl⟩
          refine Nx_same sub_st ?_
          refine D_one 5 rfl (E_short (A := k0.A) (m := k0.n) (c := k0.c) rfl (Srd.old hr0 (fun k _ => noOwns k)) hnc0 hcm0 hb) ?_ rfl rfl (by kernel_rfl)
          rintro _ _ ⟨gb, rfl, rfl⟩
          refine Nx_same sub_st ?_
          refine D_one 8 rfl (E_storew (cs := [.slice none 0 0]) rfl rfl rfl rfl (sl_one _ _ _) rfl) ?_ rfl rfl (by kernel_rfl)
          rintro _ _ rfl
          refine Nx_same sub_st ?_
          refine D_one 9 rfl (E_storew (cs := [.slice none 0 0]) rfl rfl rfl rfl (sl_one _ _ _) rfl) ?_ rfl rfl (by kernel_rfl)
          rintro _ _ rfl
          refine Nx_same sub_st ?_
          refine D_done ?_ (by kernel_rfl)
          exact hJ (ga, gb, b5, b6) _ _ trivial (Sub.cons rfl (Sub.cons rfl (Sub.cons rfl (Sub.cons rfl (Sub.cons rfl (Sub.cons rfl (Sub.cons rfl Sub.nil))))))) sub_st
      · rintro _ _ ⟨b5, rfl, rfl⟩
        refine Nx_same sub_st ?_
        refine D_one 1 rfl (E_short (A := k.A) (m := k.n) (c := k.c) rfl (Srd.old hr (fun k _ => noOwns k)) hnc hcm1 ha) ?_ rfl rfl (by kernel_rfl)
        rintro _ _ ⟨ga, rfl, rfl⟩
        refine Nx_same sub_st ?_
        refine D_one 5 rfl (E_short (A := k0.A) (m := k0.n) (c := k0.c) rfl (Srd.old hr0 (fun k _ => noOwns k)) hnc0 hcm0 hb) ?_ rfl rfl (by kernel_rfl)
        rintro _ _ ⟨gb, rfl, rfl⟩
        refine Nx_same sub_st ?_
        refine D_one 8 rfl (E_storew (cs := [.slice none 0 0]) rfl rfl rfl rfl (sl_one _ _ _) rfl) ?_ rfl rfl (by kernel_rfl)
        rintro _ _ rfl
        refine Nx_same sub_st ?_
        refine D_one 9 rfl (E_storew (cs := [.slice none 0 0]) rfl rfl rfl rfl (sl_one _ _ _) rfl) ?_ rfl rfl (by kernel_rfl)
        rintro _ _ rfl
        refine Nx_same sub_st ?_
        refine D_done ?_ (by kernel_rfl)
        exact hJ (ga, gb, b5, b6) _ _ trivial (Sub.cons rfl (Sub.cons rfl (Sub.cons rfl (Sub.cons rfl (Sub.cons rfl (Sub.cons rfl (Sub.cons rfl Sub.nil))))))) sub_st
  obtain ⟨ga, gb, b5, b6⟩ := x
  dsimp only
  obtain ⟨f, hf⟩ : ∃ f, farN a b = f := ⟨_, rfl⟩
  have h2 := stp_no a b
  have hcases : (∃ ra rb e1 e2, right a = ra ∧ right b = rb ∧ chkE a = e1 ∧ stpE b a = e2 ∧ ((ra = false ∧ e1 = 240 ∧ e2 = 240) ∨ (ra = true ∧ rb = false ∧ e1 = 0 ∧ e2 = 240) ∨ (ra = true ∧ rb = true ∧ e1 = 0 ∧ e2 = 241 ∧ 1 < f) ∨ (ra = true ∧ rb = true ∧ e1 = 0 ∧ e2 = 0 ∧ ¬ 1 < f))) := by
    refine ⟨_, _, _, _, rfl, rfl, rfl, rfl, ?_⟩
    rw [h2, noE, chkE, hf]
    cases right a <;> cases right b <;> simp
    omega
  obtain ⟨ra, rb, e1, e2, hra, hrb, he1, he2, hcs⟩ := hcases
  obtain ⟨q, hab⟩ : ∃ q, decide (a = b) = q := ⟨_, rfl⟩
  rcases hcs with ⟨rfl, rfl, rfl⟩ | ⟨rfl, rfl, rfl, rfl⟩ | ⟨rfl, rfl, rfl, rfl, hfar⟩ | ⟨rfl, rfl, rfl, rfl, hfar⟩
  · focus (refine S_seq rfl ?_; refine S_region rfl rfl ?_; refine R_take (T_loada (ds := [.slice (some ⟨ga, 0, none⟩) a.length (a.length + 2)]) rfl rfl rfl rfl (fun j v h => by simpa using h)) ?_ rfl rfl; (refine R_eff (E_rrightW rfl (wide_rd (g := ga)) ha9 hra) ?_ rfl rfl; rintro _ _ ⟨rfl, rfl⟩); refine R_p rfl ?_ rfl rfl; refine R_nil ?_; refine S_seq rfl ?_)
    refine S_draw (_) (fun _ h => h) (by kernel_rfl) rfl (by kernel_rfl) (by kernel_rfl : _ = 7) ?_
    refine D_take 0 rfl (T_loada (ds := [.slice (some ⟨ga, 0, none⟩) a.length (a.length + 2)]) rfl rfl rfl rfl (fun j v h => by simpa using h)) ?_ rfl rfl (by kernel_rfl) (by kernel_rfl)
    refine D_take 2 rfl (T_loada (ds := [.slice (some ⟨gb, 0, none⟩) b.length (b.length + 2)]) rfl rfl rfl rfl (fun j v h => by simpa using h)) ?_ rfl rfl (by kernel_rfl) (by kernel_rfl)
    refine D_take 3 rfl (T_loada (ds := [.slice (some ⟨ga, 0, none⟩) a.length (a.length + 2)]) rfl rfl rfl rfl (fun j v h => by simpa using h)) ?_ rfl rfl (by kernel_rfl) (by kernel_rfl)
    refine D_one 1 rfl (E_chkW rfl (wide_rd (g := ga)) ha9 he1) ?_ rfl rfl (by kernel_rfl)
    rintro _ _ ⟨rfl, rfl⟩
    refine Nx_same sub_st ?_
    refine D_one 4 rfl (E_stepW rfl rfl (wide_rd (g := gb)) (wide_rd (g := ga)) hb9 ha9 he2) ?_ rfl rfl (by kernel_rfl)
    rintro _ _ ⟨rfl, rfl⟩
    refine Nx_same sub_st ?_
    refine D_take 5 rfl (pev_ok rfl) ?_ rfl rfl (by kernel_rfl) (by kernel_rfl)
    refine D_take 6 rfl (pev_ok rfl) ?_ rfl rfl (by kernel_rfl) (by kernel_rfl)
    refine D_done ?_ (by kernel_rfl)
    skip
    focus (refine S_seq rfl ?_; refine S_region rfl rfl ?_; refine R_p rfl ?_ rfl rfl; refine R_nil ?_; refine S_seq rfl ?_; refine S_block rfl ?_; refine S_seq rfl ?_; refine S_region rfl rfl ?_; refine R_p rfl ?_ rfl rfl; refine R_take (T_not rfl) ?_ rfl rfl; refine R_p rfl ?_ rfl rfl; refine R_skip ?_ rfl rfl; refine R_skip ?_ rfl rfl; refine R_skip ?_ rfl rfl; refine R_p rfl ?_ rfl rfl; refine R_p rfl ?_ rfl rfl; refine R_nil ?_; refine S_true rfl rfl ?_; refine S_region rfl rfl ?_; refine R_p rfl ?_ rfl rfl; refine R_nil ?_; refine RS_blk ?_; refine S_seq rfl ?_)
    refine S_draw (_) (fun _ h => h) (by kernel_rfl) rfl (by kernel_rfl) (by kernel_rfl : _ = 33) ?_
    refine D_take 0 rfl (pev_ok rfl) ?_ rfl rfl (by kernel_rfl) (by kernel_rfl)
    refine D_take 1 rfl (T_decF rfl (by decide)) ?_ rfl rfl (by kernel_rfl) (by kernel_rfl)
    refine D_take 2 rfl (pev_ok rfl) ?_ rfl rfl (by kernel_rfl) (by kernel_rfl)
    refine D_take 3 rfl (T_bne rfl rfl rfl rfl) ?_ rfl rfl (by kernel_rfl) (by kernel_rfl)
    refine D_take 4 rfl (pev_ok rfl) ?_ rfl rfl (by kernel_rfl) (by kernel_rfl)
    refine D_take 5 rfl (pev_ok rfl) ?_ rfl rfl (by kernel_rfl) (by kernel_rfl)
    refine D_take 6 rfl (T_not rfl) ?_ rfl rfl (by kernel_rfl) (by kernel_rfl)
    refine D_take 7 rfl (pev_ok rfl) ?_ rfl rfl (by kernel_rfl) (by kernel_rfl)
    refine D_take 8 rfl (pev_ok rfl) ?_ rfl rfl (by kernel_rfl) (by kernel_rfl)
    refine D_take 9 rfl (T_decF rfl (by decide)) ?_ rfl rfl (by kernel_rfl) (by kernel_rfl)
    refine D_take 10 rfl (pev_ok rfl) ?_ rfl rfl (by kernel_rfl) (by kernel_rfl)
    refine D_take 11 rfl (pev_ok rfl) ?_ rfl rfl (by kernel_rfl) (by kernel_rfl)
    refine D_take 12 rfl (pev_ok rfl) ?_ rfl rfl (by kernel_rfl) (by kernel_rfl)
    refine D_take 13 rfl (pev_ok rfl) ?_ rfl rfl (by kernel_rfl) (by kernel_rfl)
    refine D_take 14 rfl (pev_ok rfl) ?_ rfl rfl (by kernel_rfl) (by kernel_rfl)
    refine D_take 15 rfl (T_decF rfl (by decide)) ?_ rfl rfl (by kernel_rfl) (by kernel_rfl)
    refine D_take 16 rfl (pev_ok rfl) ?_ rfl rfl (by kernel_rfl) (by kernel_rfl)
    refine D_take 17 rfl (pev_ok rfl) ?_ rfl rfl (by kernel_rfl) (by kernel_rfl)
    refine D_take 18 rfl (T_loada (ds := [.slice (some ⟨ga, 0, none⟩) a.length (a.length + 2)]) rfl rfl rfl rfl (fun j v h => by simpa using h)) ?_ rfl rfl (by kernel_rfl) (by kernel_rfl)
    refine D_take 19 rfl (T_loada (ds := [.slice (some ⟨gb, 0, none⟩) b.length (b.length + 2)]) rfl rfl rfl rfl (fun j v h => by simpa using h)) ?_ rfl rfl (by kernel_rfl) (by kernel_rfl)
    refine D_take 21 rfl (T_loada (ds := [.slice (some ⟨ga, 0, none⟩) a.length (a.length + 2)]) rfl rfl rfl rfl (fun j v h => by simpa using h)) ?_ rfl rfl (by kernel_rfl) (by kernel_rfl)
    refine D_take 22 rfl (T_loada (ds := [.slice (some ⟨gb, 0, none⟩) b.length (b.length + 2)]) rfl rfl rfl rfl (fun j v h => by simpa using h)) ?_ rfl rfl (by kernel_rfl) (by kernel_rfl)
    refine D_one 20 rfl (E_sameW rfl rfl (wide_rd (g := ga)) (wide_rd (g := gb)) ha9 hb9 hab) ?_ rfl rfl (by kernel_rfl)
    rintro _ _ ⟨rfl, rfl⟩
    refine Nx_same sub_st ?_
    refine D_one 23 rfl (E_rsameW rfl rfl (wide_rd (g := ga)) (wide_rd (g := gb)) ha9 hb9 hab) ?_ rfl rfl (by kernel_rfl)
    rintro _ _ ⟨rfl, rfl⟩
    refine Nx_same sub_st ?_
    refine D_take 24 rfl (T_bnes (b := q) rfl rfl rfl rfl) ?_ rfl rfl (by kernel_rfl) (by kernel_rfl)
    refine D_take 25 rfl (pev_ok rfl) ?_ rfl rfl (by kernel_rfl) (by kernel_rfl)
    refine D_take 26 rfl (pev_ok rfl) ?_ rfl rfl (by kernel_rfl) (by kernel_rfl)
    refine D_take 27 rfl (T_loada (ds := [.slice (some ⟨ga, 0, none⟩) a.length (a.length + 2)]) rfl rfl rfl rfl (fun j v h => by simpa using h)) ?_ rfl rfl (by kernel_rfl) (by kernel_rfl)
    refine D_take 28 rfl (T_loada (ds := [k.v]) rfl rfl rfl rfl (fun j v h => by simpa using h)) ?_ rfl rfl (by kernel_rfl) (by kernel_rfl)
    refine D_one 29 rfl (E_short (A := k.A) (m := k.n) (c := k.c) rfl (Srd.old hr (fun k _ => noOwns k)) hnc hcm1 ha) ?_ rfl rfl (by kernel_rfl)
    rintro _ _ ⟨gs, rfl, rfl⟩
    refine Nx_same sub_st ?_
    refine D_one 30 rfl (E_whole (b := ga) (r := true) rfl rfl wide_rw (wide_rd (g := gs)) ha9 ha9 (decide_eq_true rfl)) ?_ rfl rfl (by kernel_rfl)
    rintro _ _ ⟨rfl, rfl⟩
    refine Nx_same sub_st ?_
    refine D_take 31 rfl (T_not rfl) ?_ rfl rfl (by kernel_rfl) (by kernel_rfl)
    refine D_take 32 rfl (pev_ok rfl) ?_ rfl rfl (by kernel_rfl) (by kernel_rfl)
    refine D_done ?_ (by kernel_rfl)
    skip
    focus (refine S_false rfl rfl ?_; refine S_skip rfl ?_; refine RS_blk ?_; refine S_region rfl rfl ?_; refine R_take (T_addN rfl rfl (by unfold fits; omega)) ?_ rfl rfl; refine R_p rfl ?_ rfl rfl; refine R_nil ?_)
    exact hJ (j + 1) _ _ ⟨by omega, by omega⟩ (Sub.cons rfl (Sub.cons rfl (Sub.cons rfl (Sub.cons rfl Sub.nil)))) (fun _ hS => hS.sublist (List.nil_sublist _)) (by omega)
  · focus (refine S_seq rfl ?_; refine S_region rfl rfl ?_; refine R_take (T_loada (ds := [.slice (some ⟨ga, 0, none⟩) a.length (a.length + 2)]) rfl rfl rfl rfl (fun j v h => by simpa using h)) ?_ rfl rfl; (refine R_eff (E_rrightW rfl (wide_rd (g := ga)) ha9 hra) ?_ rfl rfl; rintro _ _ ⟨rfl, rfl⟩); refine R_p rfl ?_ rfl rfl; refine R_nil ?_; refine S_seq rfl ?_)
    refine S_draw (_) (fun _ h => h) (by kernel_rfl) rfl (by kernel_rfl) (by kernel_rfl : _ = 7) ?_
    refine D_take 0 rfl (T_loada (ds := [.slice (some ⟨ga, 0, none⟩) a.length (a.length + 2)]) rfl rfl rfl rfl (fun j v h => by simpa using h)) ?_ rfl rfl (by kernel_rfl) (by kernel_rfl)
    refine D_take 2 rfl (T_loada (ds := [.slice (some ⟨gb, 0, none⟩) b.length (b.length + 2)]) rfl rfl rfl rfl (fun j v h => by simpa using h)) ?_ rfl rfl (by kernel_rfl) (by kernel_rfl)
    refine D_take 3 rfl (T_loada (ds := [.slice (some ⟨ga, 0, none⟩) a.length (a.length + 2)]) rfl rfl rfl rfl (fun j v h => by simpa using h)) ?_ rfl rfl (by kernel_rfl) (by kernel_rfl)
    refine D_one 1 rfl (E_chkW rfl (wide_rd (g := ga)) ha9 he1) ?_ rfl rfl (by kernel_rfl)
    rintro _ _ ⟨rfl, rfl⟩
    refine Nx_same sub_st ?_
    refine D_one 4 rfl (E_stepW rfl rfl (wide_rd (g := gb)) (wide_rd (g := ga)) hb9 ha9 he2) ?_ rfl rfl (by kernel_rfl)
    rintro _ _ ⟨rfl, rfl⟩
    refine Nx_same sub_st ?_
    refine D_take 5 rfl (pev_ok rfl) ?_ rfl rfl (by kernel_rfl) (by kernel_rfl)
    refine D_take 6 rfl (pev_ok rfl) ?_ rfl rfl (by kernel_rfl) (by kernel_rfl)
    refine D_done ?_ (by kernel_rfl)
    skip
    focus (refine S_seq rfl ?_; refine S_region rfl rfl ?_; refine R_p rfl ?_ rfl rfl; refine R_nil ?_; refine S_seq rfl ?_; refine S_block rfl ?_; refine S_seq rfl ?_; refine S_region rfl rfl ?_; refine R_p rfl ?_ rfl rfl; refine R_take (T_not rfl) ?_ rfl rfl; refine R_p rfl ?_ rfl rfl; refine R_take (T_loada (ds := [.slice (some ⟨gb, 0, none⟩) b.length (b.length + 2)]) rfl rfl rfl rfl (fun j v h => by simpa using h)) ?_ rfl rfl; (refine R_eff (E_rrightW rfl (wide_rd (g := gb)) hb9 hrb) ?_ rfl rfl; rintro _ _ ⟨rfl, rfl⟩); refine R_take (T_not rfl) ?_ rfl rfl; refine R_p rfl ?_ rfl rfl; refine R_p rfl ?_ rfl rfl; refine R_nil ?_; refine S_true rfl rfl ?_; refine S_region rfl rfl ?_; refine R_p rfl ?_ rfl rfl; refine R_nil ?_; refine RS_blk ?_; refine S_seq rfl ?_)
    refine S_draw (_) (fun _ h => h) (by kernel_rfl) rfl (by kernel_rfl) (by kernel_rfl : _ = 33) ?_
    refine D_take 0 rfl (pev_ok rfl) ?_ rfl rfl (by kernel_rfl) (by kernel_rfl)
    refine D_take 1 rfl (T_decT rfl rfl) ?_ rfl rfl (by kernel_rfl) (by kernel_rfl)
    refine D_take 2 rfl (pev_ok rfl) ?_ rfl rfl (by kernel_rfl) (by kernel_rfl)
    refine D_take 3 rfl (T_bne rfl rfl rfl rfl) ?_ rfl rfl (by kernel_rfl) (by kernel_rfl)
    refine D_take 4 rfl (pev_ok rfl) ?_ rfl rfl (by kernel_rfl) (by kernel_rfl)
    refine D_take 5 rfl (pev_ok rfl) ?_ rfl rfl (by kernel_rfl) (by kernel_rfl)
    refine D_take 6 rfl (T_not rfl) ?_ rfl rfl (by kernel_rfl) (by kernel_rfl)
    refine D_take 7 rfl (pev_ok rfl) ?_ rfl rfl (by kernel_rfl) (by kernel_rfl)
    refine D_skip 8 rfl ?_ rfl rfl (by kernel_rfl) (by kernel_rfl)
    refine D_skip 9 rfl ?_ rfl rfl (by kernel_rfl) (by kernel_rfl)
    refine D_take 10 rfl (pev_ok rfl) ?_ rfl rfl (by kernel_rfl) (by kernel_rfl)
    refine D_take 11 rfl (pev_ok rfl) ?_ rfl rfl (by kernel_rfl) (by kernel_rfl)
    refine D_take 12 rfl (pev_ok rfl) ?_ rfl rfl (by kernel_rfl) (by kernel_rfl)
    refine D_take 13 rfl (pev_ok rfl) ?_ rfl rfl (by kernel_rfl) (by kernel_rfl)
    refine D_take 14 rfl (pev_ok rfl) ?_ rfl rfl (by kernel_rfl) (by kernel_rfl)
    refine D_take 15 rfl (T_decF rfl (by decide)) ?_ rfl rfl (by kernel_rfl) (by kernel_rfl)
    refine D_take 16 rfl (pev_ok rfl) ?_ rfl rfl (by kernel_rfl) (by kernel_rfl)
    refine D_take 17 rfl (pev_ok rfl) ?_ rfl rfl (by kernel_rfl) (by kernel_rfl)
    refine D_take 18 rfl (T_loada (ds := [.slice (some ⟨ga, 0, none⟩) a.length (a.length + 2)]) rfl rfl rfl rfl (fun j v h => by simpa using h)) ?_ rfl rfl (by kernel_rfl) (by kernel_rfl)
    refine D_take 19 rfl (T_loada (ds := [.slice (some ⟨gb, 0, none⟩) b.length (b.length + 2)]) rfl rfl rfl rfl (fun j v h => by simpa using h)) ?_ rfl rfl (by kernel_rfl) (by kernel_rfl)
    refine D_take 21 rfl (T_loada (ds := [.slice (some ⟨ga, 0, none⟩) a.length (a.length + 2)]) rfl rfl rfl rfl (fun j v h => by simpa using h)) ?_ rfl rfl (by kernel_rfl) (by kernel_rfl)
    refine D_take 22 rfl (T_loada (ds := [.slice (some ⟨gb, 0, none⟩) b.length (b.length + 2)]) rfl rfl rfl rfl (fun j v h => by simpa using h)) ?_ rfl rfl (by kernel_rfl) (by kernel_rfl)
    refine D_one 20 rfl (E_sameW rfl rfl (wide_rd (g := ga)) (wide_rd (g := gb)) ha9 hb9 hab) ?_ rfl rfl (by kernel_rfl)
    rintro _ _ ⟨rfl, rfl⟩
    refine Nx_same sub_st ?_
    refine D_one 23 rfl (E_rsameW rfl rfl (wide_rd (g := ga)) (wide_rd (g := gb)) ha9 hb9 hab) ?_ rfl rfl (by kernel_rfl)
    rintro _ _ ⟨rfl, rfl⟩
    refine Nx_same sub_st ?_
    refine D_take 24 rfl (T_bnes (b := q) rfl rfl rfl rfl) ?_ rfl rfl (by kernel_rfl) (by kernel_rfl)
    refine D_take 25 rfl (pev_ok rfl) ?_ rfl rfl (by kernel_rfl) (by kernel_rfl)
    refine D_take 26 rfl (pev_ok rfl) ?_ rfl rfl (by kernel_rfl) (by kernel_rfl)
    refine D_take 27 rfl (T_loada (ds := [.slice (some ⟨ga, 0, none⟩) a.length (a.length + 2)]) rfl rfl rfl rfl (fun j v h => by simpa using h)) ?_ rfl rfl (by kernel_rfl) (by kernel_rfl)
    refine D_take 28 rfl (T_loada (ds := [k.v]) rfl rfl rfl rfl (fun j v h => by simpa using h)) ?_ rfl rfl (by kernel_rfl) (by kernel_rfl)
    refine D_one 29 rfl (E_short (A := k.A) (m := k.n) (c := k.c) rfl (Srd.old hr (fun k _ => noOwns k)) hnc hcm1 ha) ?_ rfl rfl (by kernel_rfl)
    rintro _ _ ⟨gs, rfl, rfl⟩
    refine Nx_same sub_st ?_
    refine D_one 30 rfl (E_whole (b := ga) (r := true) rfl rfl wide_rw (wide_rd (g := gs)) ha9 ha9 (decide_eq_true rfl)) ?_ rfl rfl (by kernel_rfl)
    rintro _ _ ⟨rfl, rfl⟩
    refine Nx_same sub_st ?_
    refine D_take 31 rfl (T_not rfl) ?_ rfl rfl (by kernel_rfl) (by kernel_rfl)
    refine D_take 32 rfl (pev_ok rfl) ?_ rfl rfl (by kernel_rfl) (by kernel_rfl)
    refine D_done ?_ (by kernel_rfl)
    skip
    focus (refine S_false rfl rfl ?_; refine S_skip rfl ?_; refine RS_blk ?_; refine S_region rfl rfl ?_; refine R_take (T_addN rfl rfl (by unfold fits; omega)) ?_ rfl rfl; refine R_p rfl ?_ rfl rfl; refine R_nil ?_)
    exact hJ (j + 1) _ _ ⟨by omega, by omega⟩ (Sub.cons rfl (Sub.cons rfl (Sub.cons rfl (Sub.cons rfl Sub.nil)))) (fun _ hS => hS.sublist (List.nil_sublist _)) (by omega)
  · focus (refine S_seq rfl ?_; refine S_region rfl rfl ?_; refine R_take (T_loada (ds := [.slice (some ⟨ga, 0, none⟩) a.length (a.length + 2)]) rfl rfl rfl rfl (fun j v h => by simpa using h)) ?_ rfl rfl; (refine R_eff (E_rrightW rfl (wide_rd (g := ga)) ha9 hra) ?_ rfl rfl; rintro _ _ ⟨rfl, rfl⟩); refine R_p rfl ?_ rfl rfl; refine R_nil ?_; refine S_seq rfl ?_)
    refine S_draw (_) (fun _ h => h) (by kernel_rfl) rfl (by kernel_rfl) (by kernel_rfl : _ = 7) ?_
    refine D_take 0 rfl (T_loada (ds := [.slice (some ⟨ga, 0, none⟩) a.length (a.length + 2)]) rfl rfl rfl rfl (fun j v h => by simpa using h)) ?_ rfl rfl (by kernel_rfl) (by kernel_rfl)
    refine D_take 2 rfl (T_loada (ds := [.slice (some ⟨gb, 0, none⟩) b.length (b.length + 2)]) rfl rfl rfl rfl (fun j v h => by simpa using h)) ?_ rfl rfl (by kernel_rfl) (by kernel_rfl)
    refine D_take 3 rfl (T_loada (ds := [.slice (some ⟨ga, 0, none⟩) a.length (a.length + 2)]) rfl rfl rfl rfl (fun j v h => by simpa using h)) ?_ rfl rfl (by kernel_rfl) (by kernel_rfl)
    refine D_one 1 rfl (E_chkW rfl (wide_rd (g := ga)) ha9 he1) ?_ rfl rfl (by kernel_rfl)
    rintro _ _ ⟨rfl, rfl⟩
    refine Nx_same sub_st ?_
    refine D_one 4 rfl (E_stepW rfl rfl (wide_rd (g := gb)) (wide_rd (g := ga)) hb9 ha9 he2) ?_ rfl rfl (by kernel_rfl)
    rintro _ _ ⟨rfl, rfl⟩
    refine Nx_same sub_st ?_
    refine D_take 5 rfl (pev_ok rfl) ?_ rfl rfl (by kernel_rfl) (by kernel_rfl)
    refine D_take 6 rfl (pev_ok rfl) ?_ rfl rfl (by kernel_rfl) (by kernel_rfl)
    refine D_done ?_ (by kernel_rfl)
    skip
    focus (refine S_seq rfl ?_; refine S_region rfl rfl ?_; refine R_p rfl ?_ rfl rfl; refine R_nil ?_; refine S_seq rfl ?_; refine S_block rfl ?_; refine S_seq rfl ?_; refine S_region rfl rfl ?_; refine R_p rfl ?_ rfl rfl; refine R_take (T_not rfl) ?_ rfl rfl; refine R_p rfl ?_ rfl rfl; refine R_take (T_loada (ds := [.slice (some ⟨gb, 0, none⟩) b.length (b.length + 2)]) rfl rfl rfl rfl (fun j v h => by simpa using h)) ?_ rfl rfl; (refine R_eff (E_rrightW rfl (wide_rd (g := gb)) hb9 hrb) ?_ rfl rfl; rintro _ _ ⟨rfl, rfl⟩); refine R_take (T_not rfl) ?_ rfl rfl; refine R_p rfl ?_ rfl rfl; refine R_p rfl ?_ rfl rfl; refine R_nil ?_; refine S_false rfl rfl ?_; refine S_seq rfl ?_; refine S_region rfl rfl ?_; refine R_take (T_loada (ds := [.slice (some ⟨ga, 0, none⟩) a.length (a.length + 2)]) rfl rfl rfl rfl (fun j v h => by simpa using h)) ?_ rfl rfl; refine R_take (T_loada (ds := [.slice (some ⟨gb, 0, none⟩) b.length (b.length + 2)]) rfl rfl rfl rfl (fun j v h => by simpa using h)) ?_ rfl rfl; (refine R_eff (E_rfarW rfl rfl (wide_rd (g := ga)) (wide_rd (g := gb)) ha9 hb9 hf) ?_ rfl rfl; rintro _ _ ⟨rfl, rfl⟩); refine R_take (T_decT rfl (by omega)) ?_ rfl rfl; refine R_p rfl ?_ rfl rfl; refine R_nil ?_; refine S_true rfl rfl ?_; refine S_region rfl rfl ?_; refine R_p rfl ?_ rfl rfl; refine R_nil ?_; refine RS_blk ?_; refine S_seq rfl ?_)
    refine S_draw (_) (fun _ h => h) (by kernel_rfl) rfl (by kernel_rfl) (by kernel_rfl : _ = 33) ?_
    refine D_take 0 rfl (pev_ok rfl) ?_ rfl rfl (by kernel_rfl) (by kernel_rfl)
    refine D_take 1 rfl (T_decT rfl rfl) ?_ rfl rfl (by kernel_rfl) (by kernel_rfl)
    refine D_take 2 rfl (pev_ok rfl) ?_ rfl rfl (by kernel_rfl) (by kernel_rfl)
    refine D_take 3 rfl (T_bne rfl rfl rfl rfl) ?_ rfl rfl (by kernel_rfl) (by kernel_rfl)
    refine D_take 4 rfl (pev_ok rfl) ?_ rfl rfl (by kernel_rfl) (by kernel_rfl)
    refine D_take 5 rfl (pev_ok rfl) ?_ rfl rfl (by kernel_rfl) (by kernel_rfl)
    refine D_take 6 rfl (T_not rfl) ?_ rfl rfl (by kernel_rfl) (by kernel_rfl)
    refine D_take 7 rfl (pev_ok rfl) ?_ rfl rfl (by kernel_rfl) (by kernel_rfl)
    refine D_skip 8 rfl ?_ rfl rfl (by kernel_rfl) (by kernel_rfl)
    refine D_skip 9 rfl ?_ rfl rfl (by kernel_rfl) (by kernel_rfl)
    refine D_take 10 rfl (pev_ok rfl) ?_ rfl rfl (by kernel_rfl) (by kernel_rfl)
    refine D_take 11 rfl (pev_ok rfl) ?_ rfl rfl (by kernel_rfl) (by kernel_rfl)
    refine D_take 12 rfl (pev_ok rfl) ?_ rfl rfl (by kernel_rfl) (by kernel_rfl)
    refine D_take 13 rfl (pev_ok rfl) ?_ rfl rfl (by kernel_rfl) (by kernel_rfl)
    refine D_take 14 rfl (pev_ok rfl) ?_ rfl rfl (by kernel_rfl) (by kernel_rfl)
    refine D_take 15 rfl (T_decF rfl (by decide)) ?_ rfl rfl (by kernel_rfl) (by kernel_rfl)
    refine D_take 16 rfl (pev_ok rfl) ?_ rfl rfl (by kernel_rfl) (by kernel_rfl)
    refine D_take 17 rfl (pev_ok rfl) ?_ rfl rfl (by kernel_rfl) (by kernel_rfl)
    refine D_take 18 rfl (T_loada (ds := [.slice (some ⟨ga, 0, none⟩) a.length (a.length + 2)]) rfl rfl rfl rfl (fun j v h => by simpa using h)) ?_ rfl rfl (by kernel_rfl) (by kernel_rfl)
    refine D_take 19 rfl (T_loada (ds := [.slice (some ⟨gb, 0, none⟩) b.length (b.length + 2)]) rfl rfl rfl rfl (fun j v h => by simpa using h)) ?_ rfl rfl (by kernel_rfl) (by kernel_rfl)
    refine D_take 21 rfl (T_loada (ds := [.slice (some ⟨ga, 0, none⟩) a.length (a.length + 2)]) rfl rfl rfl rfl (fun j v h => by simpa using h)) ?_ rfl rfl (by kernel_rfl) (by kernel_rfl)
    refine D_take 22 rfl (T_loada (ds := [.slice (some ⟨gb, 0, none⟩) b.length (b.length + 2)]) rfl rfl rfl rfl (fun j v h => by simpa using h)) ?_ rfl rfl (by kernel_rfl) (by kernel_rfl)
    refine D_one 20 rfl (E_sameW rfl rfl (wide_rd (g := ga)) (wide_rd (g := gb)) ha9 hb9 hab) ?_ rfl rfl (by kernel_rfl)
    rintro _ _ ⟨rfl, rfl⟩
    refine Nx_same sub_st ?_
    refine D_one 23 rfl (E_rsameW rfl rfl (wide_rd (g := ga)) (wide_rd (g := gb)) ha9 hb9 hab) ?_ rfl rfl (by kernel_rfl)
    rintro _ _ ⟨rfl, rfl⟩
    refine Nx_same sub_st ?_
    refine D_take 24 rfl (T_bnes (b := q) rfl rfl rfl rfl) ?_ rfl rfl (by kernel_rfl) (by kernel_rfl)
    refine D_take 25 rfl (pev_ok rfl) ?_ rfl rfl (by kernel_rfl) (by kernel_rfl)
    refine D_take 26 rfl (pev_ok rfl) ?_ rfl rfl (by kernel_rfl) (by kernel_rfl)
    refine D_take 27 rfl (T_loada (ds := [.slice (some ⟨ga, 0, none⟩) a.length (a.length + 2)]) rfl rfl rfl rfl (fun j v h => by simpa using h)) ?_ rfl rfl (by kernel_rfl) (by kernel_rfl)
    refine D_take 28 rfl (T_loada (ds := [k.v]) rfl rfl rfl rfl (fun j v h => by simpa using h)) ?_ rfl rfl (by kernel_rfl) (by kernel_rfl)
    refine D_one 29 rfl (E_short (A := k.A) (m := k.n) (c := k.c) rfl (Srd.old hr (fun k _ => noOwns k)) hnc hcm1 ha) ?_ rfl rfl (by kernel_rfl)
    rintro _ _ ⟨gs, rfl, rfl⟩
    refine Nx_same sub_st ?_
    refine D_one 30 rfl (E_whole (b := ga) (r := true) rfl rfl wide_rw (wide_rd (g := gs)) ha9 ha9 (decide_eq_true rfl)) ?_ rfl rfl (by kernel_rfl)
    rintro _ _ ⟨rfl, rfl⟩
    refine Nx_same sub_st ?_
    refine D_take 31 rfl (T_not rfl) ?_ rfl rfl (by kernel_rfl) (by kernel_rfl)
    refine D_take 32 rfl (pev_ok rfl) ?_ rfl rfl (by kernel_rfl) (by kernel_rfl)
    refine D_done ?_ (by kernel_rfl)
    skip
    focus (refine S_false rfl rfl ?_; refine S_skip rfl ?_; refine RS_blk ?_; refine S_region rfl rfl ?_; refine R_take (T_addN rfl rfl (by unfold fits; omega)) ?_ rfl rfl; refine R_p rfl ?_ rfl rfl; refine R_nil ?_)
    exact hJ (j + 1) _ _ ⟨by omega, by omega⟩ (Sub.cons rfl (Sub.cons rfl (Sub.cons rfl (Sub.cons rfl Sub.nil)))) (fun _ hS => hS.sublist (List.nil_sublist _)) (by omega)
  · focus (refine S_seq rfl ?_; refine S_region rfl rfl ?_; refine R_take (T_loada (ds := [.slice (some ⟨ga, 0, none⟩) a.length (a.length + 2)]) rfl rfl rfl rfl (fun j v h => by simpa using h)) ?_ rfl rfl; (refine R_eff (E_rrightW rfl (wide_rd (g := ga)) ha9 hra) ?_ rfl rfl; rintro _ _ ⟨rfl, rfl⟩); refine R_p rfl ?_ rfl rfl; refine R_nil ?_; refine S_seq rfl ?_)
    refine S_draw (_) (fun _ h => h) (by kernel_rfl) rfl (by kernel_rfl) (by kernel_rfl : _ = 7) ?_
    refine D_take 0 rfl (T_loada (ds := [.slice (some ⟨ga, 0, none⟩) a.length (a.length + 2)]) rfl rfl rfl rfl (fun j v h => by simpa using h)) ?_ rfl rfl (by kernel_rfl) (by kernel_rfl)
    refine D_take 2 rfl (T_loada (ds := [.slice (some ⟨gb, 0, none⟩) b.length (b.length + 2)]) rfl rfl rfl rfl (fun j v h => by simpa using h)) ?_ rfl rfl (by kernel_rfl) (by kernel_rfl)
    refine D_take 3 rfl (T_loada (ds := [.slice (some ⟨ga, 0, none⟩) a.length (a.length + 2)]) rfl rfl rfl rfl (fun j v h => by simpa using h)) ?_ rfl rfl (by kernel_rfl) (by kernel_rfl)
    refine D_one 1 rfl (E_chkW rfl (wide_rd (g := ga)) ha9 he1) ?_ rfl rfl (by kernel_rfl)
    rintro _ _ ⟨rfl, rfl⟩
    refine Nx_same sub_st ?_
    refine D_one 4 rfl (E_stepW rfl rfl (wide_rd (g := gb)) (wide_rd (g := ga)) hb9 ha9 he2) ?_ rfl rfl (by kernel_rfl)
    rintro _ _ ⟨rfl, rfl⟩
    refine Nx_same sub_st ?_
    refine D_take 5 rfl (pev_ok rfl) ?_ rfl rfl (by kernel_rfl) (by kernel_rfl)
    refine D_take 6 rfl (pev_ok rfl) ?_ rfl rfl (by kernel_rfl) (by kernel_rfl)
    refine D_done ?_ (by kernel_rfl)
    skip
    focus (refine S_seq rfl ?_; refine S_region rfl rfl ?_; refine R_p rfl ?_ rfl rfl; refine R_nil ?_; refine S_seq rfl ?_; refine S_block rfl ?_; refine S_seq rfl ?_; refine S_region rfl rfl ?_; refine R_p rfl ?_ rfl rfl; refine R_take (T_not rfl) ?_ rfl rfl; refine R_p rfl ?_ rfl rfl; refine R_take (T_loada (ds := [.slice (some ⟨gb, 0, none⟩) b.length (b.length + 2)]) rfl rfl rfl rfl (fun j v h => by simpa using h)) ?_ rfl rfl; (refine R_eff (E_rrightW rfl (wide_rd (g := gb)) hb9 hrb) ?_ rfl rfl; rintro _ _ ⟨rfl, rfl⟩); refine R_take (T_not rfl) ?_ rfl rfl; refine R_p rfl ?_ rfl rfl; refine R_p rfl ?_ rfl rfl; refine R_nil ?_; refine S_false rfl rfl ?_; refine S_seq rfl ?_; refine S_region rfl rfl ?_; refine R_take (T_loada (ds := [.slice (some ⟨ga, 0, none⟩) a.length (a.length + 2)]) rfl rfl rfl rfl (fun j v h => by simpa using h)) ?_ rfl rfl; refine R_take (T_loada (ds := [.slice (some ⟨gb, 0, none⟩) b.length (b.length + 2)]) rfl rfl rfl rfl (fun j v h => by simpa using h)) ?_ rfl rfl; (refine R_eff (E_rfarW rfl rfl (wide_rd (g := ga)) (wide_rd (g := gb)) ha9 hb9 hf) ?_ rfl rfl; rintro _ _ ⟨rfl, rfl⟩); refine R_take (T_decF rfl (by omega)) ?_ rfl rfl; refine R_p rfl ?_ rfl rfl; refine R_nil ?_; refine S_false rfl rfl ?_; refine S_skip rfl ?_; refine RS_blk ?_; refine S_seq rfl ?_)
    refine S_draw (_) (fun _ h => h) (by kernel_rfl) rfl (by kernel_rfl) (by kernel_rfl : _ = 33) ?_
    refine D_take 0 rfl (pev_ok rfl) ?_ rfl rfl (by kernel_rfl) (by kernel_rfl)
    refine D_take 1 rfl (T_decT rfl rfl) ?_ rfl rfl (by kernel_rfl) (by kernel_rfl)
    refine D_take 2 rfl (pev_ok rfl) ?_ rfl rfl (by kernel_rfl) (by kernel_rfl)
    refine D_take 3 rfl (T_bne rfl rfl rfl rfl) ?_ rfl rfl (by kernel_rfl) (by kernel_rfl)
    refine D_take 4 rfl (pev_ok rfl) ?_ rfl rfl (by kernel_rfl) (by kernel_rfl)
    refine D_take 5 rfl (pev_ok rfl) ?_ rfl rfl (by kernel_rfl) (by kernel_rfl)
    refine D_take 6 rfl (T_not rfl) ?_ rfl rfl (by kernel_rfl) (by kernel_rfl)
    refine D_take 7 rfl (pev_ok rfl) ?_ rfl rfl (by kernel_rfl) (by kernel_rfl)
    refine D_skip 8 rfl ?_ rfl rfl (by kernel_rfl) (by kernel_rfl)
    refine D_skip 9 rfl ?_ rfl rfl (by kernel_rfl) (by kernel_rfl)
    refine D_take 10 rfl (pev_ok rfl) ?_ rfl rfl (by kernel_rfl) (by kernel_rfl)
    refine D_take 11 rfl (pev_ok rfl) ?_ rfl rfl (by kernel_rfl) (by kernel_rfl)
    refine D_take 12 rfl (pev_ok rfl) ?_ rfl rfl (by kernel_rfl) (by kernel_rfl)
    refine D_take 13 rfl (pev_ok rfl) ?_ rfl rfl (by kernel_rfl) (by kernel_rfl)
    refine D_take 14 rfl (pev_ok rfl) ?_ rfl rfl (by kernel_rfl) (by kernel_rfl)
    refine D_take 15 rfl (T_decF rfl (by decide)) ?_ rfl rfl (by kernel_rfl) (by kernel_rfl)
    refine D_take 16 rfl (pev_ok rfl) ?_ rfl rfl (by kernel_rfl) (by kernel_rfl)
    refine D_take 17 rfl (pev_ok rfl) ?_ rfl rfl (by kernel_rfl) (by kernel_rfl)
    refine D_take 18 rfl (T_loada (ds := [.slice (some ⟨ga, 0, none⟩) a.length (a.length + 2)]) rfl rfl rfl rfl (fun j v h => by simpa using h)) ?_ rfl rfl (by kernel_rfl) (by kernel_rfl)
    refine D_take 19 rfl (T_loada (ds := [.slice (some ⟨gb, 0, none⟩) b.length (b.length + 2)]) rfl rfl rfl rfl (fun j v h => by simpa using h)) ?_ rfl rfl (by kernel_rfl) (by kernel_rfl)
    refine D_take 21 rfl (T_loada (ds := [.slice (some ⟨ga, 0, none⟩) a.length (a.length + 2)]) rfl rfl rfl rfl (fun j v h => by simpa using h)) ?_ rfl rfl (by kernel_rfl) (by kernel_rfl)
    refine D_take 22 rfl (T_loada (ds := [.slice (some ⟨gb, 0, none⟩) b.length (b.length + 2)]) rfl rfl rfl rfl (fun j v h => by simpa using h)) ?_ rfl rfl (by kernel_rfl) (by kernel_rfl)
    refine D_one 20 rfl (E_sameW rfl rfl (wide_rd (g := ga)) (wide_rd (g := gb)) ha9 hb9 hab) ?_ rfl rfl (by kernel_rfl)
    rintro _ _ ⟨rfl, rfl⟩
    refine Nx_same sub_st ?_
    refine D_one 23 rfl (E_rsameW rfl rfl (wide_rd (g := ga)) (wide_rd (g := gb)) ha9 hb9 hab) ?_ rfl rfl (by kernel_rfl)
    rintro _ _ ⟨rfl, rfl⟩
    refine Nx_same sub_st ?_
    refine D_take 24 rfl (T_bnes (b := q) rfl rfl rfl rfl) ?_ rfl rfl (by kernel_rfl) (by kernel_rfl)
    refine D_take 25 rfl (pev_ok rfl) ?_ rfl rfl (by kernel_rfl) (by kernel_rfl)
    refine D_take 26 rfl (pev_ok rfl) ?_ rfl rfl (by kernel_rfl) (by kernel_rfl)
    refine D_take 27 rfl (T_loada (ds := [.slice (some ⟨ga, 0, none⟩) a.length (a.length + 2)]) rfl rfl rfl rfl (fun j v h => by simpa using h)) ?_ rfl rfl (by kernel_rfl) (by kernel_rfl)
    refine D_take 28 rfl (T_loada (ds := [k.v]) rfl rfl rfl rfl (fun j v h => by simpa using h)) ?_ rfl rfl (by kernel_rfl) (by kernel_rfl)
    refine D_one 29 rfl (E_short (A := k.A) (m := k.n) (c := k.c) rfl (Srd.old hr (fun k _ => noOwns k)) hnc hcm1 ha) ?_ rfl rfl (by kernel_rfl)
    rintro _ _ ⟨gs, rfl, rfl⟩
    refine Nx_same sub_st ?_
    refine D_one 30 rfl (E_whole (b := ga) (r := true) rfl rfl wide_rw (wide_rd (g := gs)) ha9 ha9 (decide_eq_true rfl)) ?_ rfl rfl (by kernel_rfl)
    rintro _ _ ⟨rfl, rfl⟩
    refine Nx_same sub_st ?_
    refine D_take 31 rfl (T_not rfl) ?_ rfl rfl (by kernel_rfl) (by kernel_rfl)
    refine D_take 32 rfl (pev_ok rfl) ?_ rfl rfl (by kernel_rfl) (by kernel_rfl)
    refine D_done ?_ (by kernel_rfl)
    skip
    focus (refine S_false rfl rfl ?_; refine S_skip rfl ?_; refine RS_blk ?_; refine S_region rfl rfl ?_; refine R_take (T_addN rfl rfl (by unfold fits; omega)) ?_ rfl rfl; refine R_p rfl ?_ rfl rfl; refine R_nil ?_)
    exact hJ (j + 1) _ _ ⟨by omega, by omega⟩ (Sub.cons rfl (Sub.cons rfl (Sub.cons rfl (Sub.cons rfl Sub.nil)))) (fun _ hS => hS.sublist (List.nil_sublist _)) (by omega)
theorem ConfSteps_open {H : Type} {enc : TypeId × Value → H} (W : World) {r : Reach} (base : Nat) (v0 : Value) {d0 : DataW H} {p0 : List MemPlace}
    (hv0 : Value.okWide Try.prog W r base 35 v0) (h0 : DataW.Trod enc Try.prog W 0 (fun _ => true) true 35 v0 d0 p0) :
    Calls Try.prog 5 #[v0] W fun e w' => e = .returned (.bool true) ∧ Kp All W w' := by
  obtain ⟨A, n, c, K, rfl, h1, h2, h3, h4⟩ := open_confs hv0 h0
  exact (steps_any W A n c K h3 h1 h2 h4).pure
end Go.Proofs.Ytlihhjldkopfhaa
