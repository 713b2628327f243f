/- Rows that rise. -/
import Derived.Test.YtebbnbddlnpldaaPm1
namespace Go.Proofs.Ytebbnbddlnpldaa
open Go.RowKit
open Asn (pt row rb)
set_option linter.unusedVariables false
set_option linter.unusedSimpArgs false
--@use N

theorem map_getD {α : Type} [Inhabited α] (L : List (Str × α)) (j : Nat) (hj : j < L.length) : (L.map (·.1)).getD j [] = (L.getD j default).1 := by
  simp [List.getD, hj]
theorem rwc_zero : ti56.zero = .agg (rwc default).toArray := by kernel_rfl
theorem chc_zero : ti42.zero = .agg (chc default).toArray := by kernel_rfl
theorem rwc_one (a : Rw) : ∀ u ∈ rwc a, u.oneCell' = true := by simp [rwc, sv, Value.oneCell']
theorem chc_one (a : Ch) : ∀ u ∈ chc a, u.oneCell' = true := by simp [chc, sv, Value.oneCell']
section
variable {n : Nat} {w0 : World} {M : Nat → Prop} {T : Slots} {H Hr : List Asn} {dd : Option Tmp} {tt : TypeId} {pos : String} {af : Array Edge} {g : Option (Nat × Bool)} {x y z : Operand} {ts : Array TypeId}
theorem E_crowPath {a : Rw} {s : Str} (hx : oget T x = some (.func (.func 40) #[] #[])) (hy : oget T y = some (.agg (rwc a).toArray)) (hs : a.1 = s) :
    Ef Try.prog n w0 M T H ⟨dd, .call ⟨.value x, #[y], ts⟩, tt, pos, af, g⟩ (fun u H' => u = sv s ∧ H' = H) := by
  subst hs
  refine (E_cloA (cap := []) hx (E_gv0 ⟨_, Try.func40, rfl, by kernel_rfl⟩ (ogets_cap _ _ (.agg (rwc a).toArray) hy []) (fun w' hS => rowPath_any w' a) (fun _ => rfl))).mono ?_
  rintro v H' ⟨_, rfl, _, rfl⟩ w hS
  exact ⟨_, _, rfl, ⟨rfl, rfl⟩, hS⟩
theorem E_cchangePath {a : Ch} {s : Str} (hx : oget T x = some (.func (.func 44) #[] #[])) (hy : oget T y = some (.agg (chc a).toArray)) (hs : a.1 = s) :
    Ef Try.prog n w0 M T H ⟨dd, .call ⟨.value x, #[y], ts⟩, tt, pos, af, g⟩ (fun u H' => u = sv s ∧ H' = H) := by
  subst hs
  refine (E_cloA (cap := []) hx (E_gv0 ⟨_, Try.func44, rfl, by kernel_rfl⟩ (ogets_cap _ _ (.agg (chc a).toArray) hy []) (fun w' hS => chPath_any w' a) (fun _ => rfl))).mono ?_
  rintro v H' ⟨_, rfl, _, rfl⟩ w hS
  exact ⟨_, _, rfl, ⟨rfl, rfl⟩, hS⟩
end
set_option maxRecDepth 100000 in
set_option maxHeartbeats 4000000 in
theorem risR_any (w : World) (A : Option Addr) (n c : Nat) (L : List Rw) (h : Rd w All 2 A n (cellsL rwc L)) (hn : n ≤ 100000) (hp : ∀ x ∈ L, x.1.length ≤ 100000) :
    Gives Try.prog 41 [.agg #[.slice A n c, .func (.func 40) #[] #[]]] [] w (X := Unit) (fun _ => .bool (risB (L.map (·.1)))) (fun _ => True) (fun _ => []) := by
  refine gives_S Try.func41 rfl Try.ntmps41 Try.results41 (by simp) (St.enter w) (fun B hB => ?_)
  have hl : L.length = n := by have := h.1; rw [cellsL_len rwc_len] at this; omega
  have hne : 0 < n → A ≠ none := fun h0 => by obtain ⟨ad, rfl, _⟩ := h.2 (by omega); simp
  subst hl
  have hr0 : ∀ q : Bool, (L.length ≤ 32 → incN (L.map (·.1)) L.length = q) → (L.length ≤ 32 ∨ q = false) → risB (L.map (·.1)) = q := fun q h1 h2 => by
    rw [risB, List.length_map]
    rcases Nat.lt_or_ge 32 L.length with h3 | h3
    · rw [decide_eq_false (by omega), Bool.false_and]
      rcases h2 with h2 | rfl
      · omega
      · rfl
    · rw [decide_eq_true h3, h1 h3, Bool.true_and]
  rcases Nat.lt_or_ge 32 L.length with h32 | h32
  · skip
    focus (refine S_seq rfl ?_; refine S_region rfl rfl ?_; (refine R_eff (E_boxa (cs := [.slice A L.length c, .func (.func 40) #[] #[]]) rfl) ?_ rfl rfl; rintro _ _ ⟨b, rfl, rfl⟩); refine R_p rfl ?_ rfl rfl; refine R_nil ?_; refine S_seq rfl ?_; refine S_seq rfl ?_; refine S_region rfl rfl ?_; refine R_p rfl ?_ rfl rfl; refine R_take (T_load rfl rfl rfl (by first | rfl | assumption)) ?_ rfl rfl; refine R_p rfl ?_ rfl rfl; refine R_take (T_decT rfl (by omega)) ?_ rfl rfl; refine R_nil ?_; refine S_true rfl rfl ?_; refine S_seq rfl ?_; refine S_region rfl rfl ?_; refine R_p rfl ?_ rfl rfl; refine R_nil ?_)
    refine hB _ _ _ _ _ rfl rfl fun w' hS => ⟨(), ?_, trivial, hS.sublist (List.nil_sublist _)⟩
    rw [hr0 false (fun h => by omega) (.inr rfl)]
    rfl
  focus (refine S_seq rfl ?_; refine S_region rfl rfl ?_; (refine R_eff (E_boxa (cs := [.slice A L.length c, .func (.func 40) #[] #[]]) rfl) ?_ rfl rfl; rintro _ _ ⟨b, rfl, rfl⟩); refine R_p rfl ?_ rfl rfl; refine R_nil ?_; refine S_seq rfl ?_; refine S_seq rfl ?_; refine S_region rfl rfl ?_; refine R_p rfl ?_ rfl rfl; refine R_take (T_load rfl rfl rfl (by first | rfl | assumption)) ?_ rfl rfl; refine R_p rfl ?_ rfl rfl; refine R_take (T_decF rfl (by omega)) ?_ rfl rfl; refine R_nil ?_; refine S_false rfl rfl ?_; refine S_skip rfl ?_; refine S_seq rfl ?_; refine S_seq rfl ?_; refine S_region rfl rfl ?_; refine R_p rfl ?_ rfl rfl; refine R_take (T_load rfl rfl rfl (by first | rfl | assumption)) ?_ rfl rfl; refine R_p rfl ?_ rfl rfl; refine R_p rfl ?_ rfl rfl; refine R_nil ?_; refine S_block rfl ?_)
  refine S_loop (X := Nat) (fun j => [(1, .pointer (some ⟨b, 0, none⟩)), (10, .slice A L.length c), (11, .int .i64 (L.length : Int)), (12, .int .i64 (j : Int))]) (fun _ => [pt b 72 [.slice A L.length c, .func (.func 40) #[] #[]]]) (fun j => j ≤ L.length ∧ incN (L.map (·.1)) j = true) (fun j => L.length - j) rfl 0 ⟨Nat.zero_le _, rfl⟩ (Sub.cons rfl (Sub.cons rfl (Sub.cons rfl (Sub.cons rfl Sub.nil)))) sub_st ?_
  rintro j ⟨hj, hok⟩ J hJ
  rcases Nat.lt_or_ge j L.length with hjl | hjl
  · have hne := hne (by omega)
    have hat := cellsL_at (f := rwc) rwc_len L default j hjl
    have hmem : L.getD j default ∈ L := by simp [List.getD, hjl]
    have hnx := inc_next (L.map (·.1)) j
    rw [hok, Bool.true_and, stepB, map_getD L j hjl] at hnx
    have hbd := fun hb => inc_bad (ps := L.map (·.1)) (j := j) (n := L.length) hjl hb
    rw [stepB, map_getD L j hjl] at hbd
    have hpl := hp _ hmem
    obtain ⟨x, hx⟩ : ∃ x, L.getD j default = x := ⟨_, rfl⟩
    rw [hx] at hat hmem hnx hbd hpl
    obtain ⟨s, hxs⟩ : ∃ s, x.1 = s := ⟨_, rfl⟩
    rw [hxs] at hnx hbd hpl
    obtain ⟨r, hr⟩ : ∃ r, pathB s = r := ⟨_, rfl⟩
    rw [hr] at hnx hbd
    focus (refine S_seq rfl ?_; refine S_region rfl rfl ?_; refine R_take (T_decT rfl (by omega)) ?_ rfl rfl; refine R_nil ?_; refine S_seq rfl ?_; refine S_true rfl rfl ?_; refine S_skip rfl ?_; refine S_seq rfl ?_; refine S_block rfl ?_; refine S_seq rfl ?_; refine S_region rfl rfl ?_; refine R_p rfl ?_ rfl rfl; refine R_take (T_ixM (sz := 2) rfl rfl rfl rfl rfl rfl hne hjl) ?_ rfl rfl; refine R_take (T_lda (ds := rwc x) rfl rfl rfl (Srd.old h (fun k _ => noOwns k)) rfl (by omega) hat) ?_ rfl rfl; (refine R_eff (E_alloca rfl rwc_zero) ?_ rfl rfl; rintro _ _ ⟨b4, rfl, rfl⟩); refine R_p rfl ?_ rfl rfl; (refine R_eff0 (E_storew (cs := rwc default) (ds := rwc x) rfl rfl rfl rfl (rwc_one _) rfl) ?_ rfl; rintro _ _ rfl); refine R_nil ?_; refine S_seq rfl ?_)
    cases r
    · skip
      refine S_draw ([pt b4 56 (rwc x), pt b 72 [.slice A L.length c, .func (.func 40) #[] #[]]]) sub_st (by kernel_rfl) rfl (by kernel_rfl) (by kernel_rfl : _ = 26) ?_
      refine D_take 0 rfl (pev_ok rfl) ?_ rfl rfl (by kernel_rfl) (by kernel_rfl)
      refine D_take 1 rfl (T_load rfl rfl rfl (by first | rfl | assumption)) ?_ rfl rfl (by kernel_rfl) (by kernel_rfl)
      refine D_take 2 rfl (T_loada (ds := rwc x) rfl rfl rfl rfl (fun j v h => by simpa using h)) ?_ rfl rfl (by kernel_rfl) (by kernel_rfl)
      refine D_one 3 rfl (E_crowPath (a := x) rfl rfl hxs) ?_ rfl rfl (by kernel_rfl)
      rintro _ _ ⟨rfl, rfl⟩
      refine Nx_same sub_st ?_
      refine D_one 4 rfl (E_pathW (a := s) (r := false) rfl hpl hr) ?_ rfl rfl (by kernel_rfl)
      rintro _ _ ⟨rfl, rfl⟩
      refine Nx_same sub_st ?_
      refine D_take 5 rfl (T_not rfl) ?_ rfl rfl (by kernel_rfl) (by kernel_rfl)
      refine D_take 6 rfl (pev_ok rfl) ?_ rfl rfl (by kernel_rfl) (by kernel_rfl)
      refine D_skip 7 rfl ?_ rfl rfl (by kernel_rfl) (by kernel_rfl)
      refine D_skip 8 rfl ?_ rfl rfl (by kernel_rfl) (by kernel_rfl)
      refine D_skip 9 rfl ?_ rfl rfl (by kernel_rfl) (by kernel_rfl)
      refine D_skip 10 rfl ?_ rfl rfl (by kernel_rfl) (by kernel_rfl)
      refine D_skip 11 rfl ?_ rfl rfl (by kernel_rfl) (by kernel_rfl)
      refine D_skip 12 rfl ?_ rfl rfl (by kernel_rfl) (by kernel_rfl)
      refine D_skip 13 rfl ?_ rfl rfl (by kernel_rfl) (by kernel_rfl)
      refine D_skip 14 rfl ?_ rfl rfl (by kernel_rfl) (by kernel_rfl)
      refine D_skip 15 rfl ?_ rfl rfl (by kernel_rfl) (by kernel_rfl)
      refine D_skip 16 rfl ?_ rfl rfl (by kernel_rfl) (by kernel_rfl)
      refine D_skip 17 rfl ?_ rfl rfl (by kernel_rfl) (by kernel_rfl)
      refine D_skip 18 rfl ?_ rfl rfl (by kernel_rfl) (by kernel_rfl)
      refine D_skip 19 rfl ?_ rfl rfl (by kernel_rfl) (by kernel_rfl)
      refine D_skip 20 rfl ?_ rfl rfl (by kernel_rfl) (by kernel_rfl)
      refine D_skip 21 rfl ?_ rfl rfl (by kernel_rfl) (by kernel_rfl)
      refine D_skip 22 rfl ?_ rfl rfl (by kernel_rfl) (by kernel_rfl)
      refine D_skip 23 rfl ?_ rfl rfl (by kernel_rfl) (by kernel_rfl)
      refine D_skip 24 rfl ?_ rfl rfl (by kernel_rfl) (by kernel_rfl)
      refine D_take 25 rfl (pev_ok rfl) ?_ rfl rfl (by kernel_rfl) (by kernel_rfl)
      refine D_done ?_ (by kernel_rfl)
      skip
      focus (refine S_true rfl rfl ?_; refine S_seq rfl ?_; refine S_region rfl rfl ?_; refine R_p rfl ?_ rfl rfl; refine R_nil ?_)
      refine hB _ _ _ _ _ rfl rfl fun w' hS => ⟨(), ?_, trivial, hS.sublist (List.nil_sublist _)⟩
      rw [hr0 false (fun _ => hbd rfl) (.inr rfl)]
      rfl
    rcases Nat.eq_zero_or_pos j with hj0 | hj0
    · subst hj0
      refine S_draw ([pt b4 56 (rwc x), pt b 72 [.slice A L.length c, .func (.func 40) #[] #[]]]) sub_st (by kernel_rfl) rfl (by kernel_rfl) (by kernel_rfl : _ = 26) ?_
      refine D_take 0 rfl (pev_ok rfl) ?_ rfl rfl (by kernel_rfl) (by kernel_rfl)
      refine D_take 1 rfl (T_load rfl rfl rfl (by first | rfl | assumption)) ?_ rfl rfl (by kernel_rfl) (by kernel_rfl)
      refine D_take 2 rfl (T_loada (ds := rwc x) rfl rfl rfl rfl (fun j v h => by simpa using h)) ?_ rfl rfl (by kernel_rfl) (by kernel_rfl)
      refine D_one 3 rfl (E_crowPath (a := x) rfl rfl hxs) ?_ rfl rfl (by kernel_rfl)
      rintro _ _ ⟨rfl, rfl⟩
      refine Nx_same sub_st ?_
      refine D_one 4 rfl (E_pathW (a := s) (r := true) rfl hpl hr) ?_ rfl rfl (by kernel_rfl)
      rintro _ _ ⟨rfl, rfl⟩
      refine Nx_same sub_st ?_
      refine D_take 5 rfl (T_not rfl) ?_ rfl rfl (by kernel_rfl) (by kernel_rfl)
      refine D_take 6 rfl (pev_ok rfl) ?_ rfl rfl (by kernel_rfl) (by kernel_rfl)
      refine D_take 7 rfl (pev_ok rfl) ?_ rfl rfl (by kernel_rfl) (by kernel_rfl)
      refine D_take 8 rfl (T_decF rfl (by omega)) ?_ rfl rfl (by kernel_rfl) (by kernel_rfl)
      refine D_take 9 rfl (pev_ok rfl) ?_ rfl rfl (by kernel_rfl) (by kernel_rfl)
      refine D_skip 10 rfl ?_ rfl rfl (by kernel_rfl) (by kernel_rfl)
      refine D_skip 11 rfl ?_ rfl rfl (by kernel_rfl) (by kernel_rfl)
      refine D_skip 12 rfl ?_ rfl rfl (by kernel_rfl) (by kernel_rfl)
      refine D_skip 13 rfl ?_ rfl rfl (by kernel_rfl) (by kernel_rfl)
      refine D_skip 14 rfl ?_ rfl rfl (by kernel_rfl) (by kernel_rfl)
      refine D_skip 15 rfl ?_ rfl rfl (by kernel_rfl) (by kernel_rfl)
      refine D_skip 16 rfl ?_ rfl rfl (by kernel_rfl) (by kernel_rfl)
      refine D_skip 17 rfl ?_ rfl rfl (by kernel_rfl) (by kernel_rfl)
      refine D_skip 18 rfl ?_ rfl rfl (by kernel_rfl) (by kernel_rfl)
      refine D_skip 19 rfl ?_ rfl rfl (by kernel_rfl) (by kernel_rfl)
      refine D_skip 20 rfl ?_ rfl rfl (by kernel_rfl) (by kernel_rfl)
      refine D_skip 21 rfl ?_ rfl rfl (by kernel_rfl) (by kernel_rfl)
      refine D_skip 22 rfl ?_ rfl rfl (by kernel_rfl) (by kernel_rfl)
      refine D_skip 23 rfl ?_ rfl rfl (by kernel_rfl) (by kernel_rfl)
      refine D_take 24 rfl (pev_ok rfl) ?_ rfl rfl (by kernel_rfl) (by kernel_rfl)
      refine D_take 25 rfl (pev_ok rfl) ?_ rfl rfl (by kernel_rfl) (by kernel_rfl)
      refine D_done ?_ (by kernel_rfl)
      skip
      focus (refine S_false rfl rfl ?_; refine S_skip rfl ?_; refine RS_blk ?_; refine S_region rfl rfl ?_; refine R_take (T_addN rfl rfl (by unfold fits; omega)) ?_ rfl rfl; refine R_p rfl ?_ rfl rfl; refine R_nil ?_)
      exact hJ 1 _ _ ⟨by omega, hnx⟩ (Sub.cons rfl (Sub.cons rfl (Sub.cons rfl (Sub.cons rfl Sub.nil)))) sub_st (by omega)
    obtain ⟨i, rfl⟩ : ∃ i, j = i + 1 := ⟨j - 1, by omega⟩
    have hat2 := cellsL_at (f := rwc) rwc_len L default i (by omega)
    rw [Nat.add_sub_cancel, map_getD L i (by omega)] at hnx hbd
    obtain ⟨y, hy⟩ : ∃ y, L.getD i default = y := ⟨_, rfl⟩
    rw [hy] at hat2 hnx hbd
    obtain ⟨u, hyu⟩ : ∃ u, y.1 = u := ⟨_, rfl⟩
    rw [hyu] at hnx hbd
    have hcm : scmp .geq u s = some (!Op.bytesLess u s) := rfl
    obtain ⟨q, hq⟩ : ∃ q, Op.bytesLess u s = q := ⟨_, rfl⟩
    rw [hq] at hnx hbd hcm
    refine S_cut (X := Unit) (fun _ => [(1, .pointer (some ⟨b, 0, none⟩)), (10, .slice A L.length c), (11, .int .i64 (L.length : Int)), (12, .int .i64 ((i + 1 : Nat) : Int)), (42, .bool (!q))]) (fun _ => [pt b 72 [.slice A L.length c, .func (.func 40) #[] #[]]]) (fun _ => True) ?_ ?_
    · intro J hJ
      refine S_draw ([pt b4 56 (rwc x), pt b 72 [.slice A L.length c, .func (.func 40) #[] #[]]]) sub_st (by kernel_rfl) rfl (by kernel_rfl) (by kernel_rfl : _ = 26) ?_
      refine D_take 0 rfl (pev_ok rfl) ?_ rfl rfl (by kernel_rfl) (by kernel_rfl)
      refine D_take 1 rfl (T_load rfl rfl rfl (by first | rfl | assumption)) ?_ rfl rfl (by kernel_rfl) (by kernel_rfl)
      refine D_take 2 rfl (T_loada (ds := rwc x) rfl rfl rfl rfl (fun j v h => by simpa using h)) ?_ rfl rfl (by kernel_rfl) (by kernel_rfl)
      refine D_one 3 rfl (E_crowPath (a := x) rfl rfl hxs) ?_ rfl rfl (by kernel_rfl)
      rintro _ _ ⟨rfl, rfl⟩
      refine Nx_same sub_st ?_
      refine D_one 4 rfl (E_pathW (a := s) (r := true) rfl hpl hr) ?_ rfl rfl (by kernel_rfl)
      rintro _ _ ⟨rfl, rfl⟩
      refine Nx_same sub_st ?_
      refine D_take 5 rfl (T_not rfl) ?_ rfl rfl (by kernel_rfl) (by kernel_rfl)
      refine D_take 6 rfl (pev_ok rfl) ?_ rfl rfl (by kernel_rfl) (by kernel_rfl)
      refine D_take 7 rfl (pev_ok rfl) ?_ rfl rfl (by kernel_rfl) (by kernel_rfl)
      refine D_take 8 rfl (T_decT rfl (by omega)) ?_ rfl rfl (by kernel_rfl) (by kernel_rfl)
      refine D_take 9 rfl (pev_ok rfl) ?_ rfl rfl (by kernel_rfl) (by kernel_rfl)
      refine D_take 10 rfl (pev_ok rfl) ?_ rfl rfl (by kernel_rfl) (by kernel_rfl)
      refine D_take 11 rfl (T_load rfl rfl rfl (by first | rfl | assumption)) ?_ rfl rfl (by kernel_rfl) (by kernel_rfl)
      refine D_take 12 rfl (pev_ok rfl) ?_ rfl rfl (by kernel_rfl) (by kernel_rfl)
      refine D_take 13 rfl (T_load rfl rfl rfl (by first | rfl | assumption)) ?_ rfl rfl (by kernel_rfl) (by kernel_rfl)
      refine D_take 14 rfl (pev_ok rfl) ?_ rfl rfl (by kernel_rfl) (by kernel_rfl)
      (refine D_take 15 rfl (T_subN rfl rfl (by omega) (by unfold fits; omega)) ?_ rfl rfl (by kernel_rfl) (by kernel_rfl))
      refine D_take 16 rfl (T_ixM (sz := 2) (q := i) rfl rfl rfl rfl rfl rfl hne (by omega)) ?_ rfl rfl (by kernel_rfl) (by kernel_rfl)
      refine D_take 17 rfl (T_lda (ds := rwc y) rfl rfl rfl (Srd.old h (fun k _ => noOwns k)) rfl (by omega) hat2) ?_ rfl rfl (by kernel_rfl) (by kernel_rfl)
      refine D_take 19 rfl (pev_ok rfl) ?_ rfl rfl (by kernel_rfl) (by kernel_rfl)
      refine D_take 20 rfl (T_load rfl rfl rfl (by first | rfl | assumption)) ?_ rfl rfl (by kernel_rfl) (by kernel_rfl)
      refine D_take 21 rfl (T_loada (ds := rwc x) rfl rfl rfl rfl (fun j v h => by simpa using h)) ?_ rfl rfl (by kernel_rfl) (by kernel_rfl)
      refine D_one 18 rfl (E_crowPath (a := y) rfl rfl hyu) ?_ rfl rfl (by kernel_rfl)
      rintro _ _ ⟨rfl, rfl⟩
      refine Nx_same sub_st ?_
      refine D_one 22 rfl (E_crowPath (a := x) rfl rfl hxs) ?_ rfl rfl (by kernel_rfl)
      rintro _ _ ⟨rfl, rfl⟩
      refine Nx_same sub_st ?_
      refine D_take 23 rfl (T_scm (a := u) (b := s) rfl rfl hcm) ?_ rfl rfl (by kernel_rfl) (by kernel_rfl)
      refine D_take 24 rfl (pev_ok rfl) ?_ rfl rfl (by kernel_rfl) (by kernel_rfl)
      refine D_take 25 rfl (pev_ok rfl) ?_ rfl rfl (by kernel_rfl) (by kernel_rfl)
      refine D_done ?_ (by kernel_rfl)
      exact hJ () _ _ trivial (Sub.cons rfl (Sub.cons rfl (Sub.cons rfl (Sub.cons rfl (Sub.cons rfl Sub.nil))))) sub_st
    rintro ⟨⟩ _
    cases q
    · --@arms:
      focus (refine S_true rfl rfl ?_; refine S_seq rfl ?_; refine S_region rfl rfl ?_; refine R_p rfl ?_ rfl rfl; refine R_nil ?_)
      refine hB _ _ _ _ _ rfl rfl fun w' hS => ⟨(), ?_, trivial, hS.sublist (List.nil_sublist _)⟩
      rw [hr0 false (fun _ => hbd (by simp)) (.inr rfl)]
      rfl
    · focus (refine S_false rfl rfl ?_; refine S_skip rfl ?_; refine RS_blk ?_; refine S_region rfl rfl ?_; refine R_take (T_addN rfl rfl (by unfold fits; omega)) ?_ rfl rfl; refine R_p rfl ?_ rfl rfl; refine R_nil ?_)
      exact hJ (i + 2) _ _ ⟨by omega, by rw [hnx]; simp⟩ (Sub.cons rfl (Sub.cons rfl (Sub.cons rfl (Sub.cons rfl Sub.nil)))) sub_st (by omega)
  have hjn : j = L.length := by omega
  subst hjn
  focus (refine S_seq rfl ?_; refine S_region rfl rfl ?_; refine R_take (T_decF rfl (by omega)) ?_ rfl rfl; refine R_nil ?_; refine S_seq rfl ?_; refine S_false rfl rfl ?_; refine S_exit rfl rfl ?_; refine S_seq rfl ?_; refine S_region rfl rfl ?_; refine R_p rfl ?_ rfl rfl; refine R_nil ?_)
  refine hB _ _ _ _ _ rfl rfl fun w' hS => ⟨(), ?_, trivial, hS.sublist (List.nil_sublist _)⟩
  rw [hr0 true (fun _ => hok) (.inl h32)]
  rfl
set_option maxRecDepth 100000 in
set_option maxHeartbeats 4000000 in
theorem risC_any (w : World) (A : Option Addr) (n c : Nat) (L : List Ch) (h : Rd w All 3 A n (cellsL chc L)) (hn : n ≤ 100000) (hp : ∀ x ∈ L, x.1.length ≤ 100000) :
    Gives Try.prog 45 [.agg #[.slice A n c, .func (.func 44) #[] #[]]] [] w (X := Unit) (fun _ => .bool (risB (L.map (·.1)))) (fun _ => True) (fun _ => []) := by
  refine gives_S Try.func45 rfl Try.ntmps45 Try.results45 (by simp) (St.enter w) (fun B hB => ?_)
  have hl : L.length = n := by have := h.1; rw [cellsL_len chc_len] at this; omega
  have hne : 0 < n → A ≠ none := fun h0 => by obtain ⟨ad, rfl, _⟩ := h.2 (by omega); simp
  subst hl
  have hr0 : ∀ q : Bool, (L.length ≤ 32 → incN (L.map (·.1)) L.length = q) → (L.length ≤ 32 ∨ q = false) → risB (L.map (·.1)) = q := fun q h1 h2 => by
    rw [risB, List.length_map]
    rcases Nat.lt_or_ge 32 L.length with h3 | h3
    · rw [decide_eq_false (by omega), Bool.false_and]
      rcases h2 with h2 | rfl
      · omega
      · rfl
    · rw [decide_eq_true h3, h1 h3, Bool.true_and]
  rcases Nat.lt_or_ge 32 L.length with h32 | h32
  · skip
    focus (refine S_seq rfl ?_; refine S_region rfl rfl ?_; (refine R_eff (E_boxa (cs := [.slice A L.length c, .func (.func 44) #[] #[]]) rfl) ?_ rfl rfl; rintro _ _ ⟨b, rfl, rfl⟩); refine R_p rfl ?_ rfl rfl; refine R_nil ?_; refine S_seq rfl ?_; refine S_seq rfl ?_; refine S_region rfl rfl ?_; refine R_p rfl ?_ rfl rfl; refine R_take (T_load rfl rfl rfl (by first | rfl | assumption)) ?_ rfl rfl; refine R_p rfl ?_ rfl rfl; refine R_take (T_decT rfl (by omega)) ?_ rfl rfl; refine R_nil ?_; refine S_true rfl rfl ?_; refine S_seq rfl ?_; refine S_region rfl rfl ?_; refine R_p rfl ?_ rfl rfl; refine R_nil ?_)
    refine hB _ _ _ _ _ rfl rfl fun w' hS => ⟨(), ?_, trivial, hS.sublist (List.nil_sublist _)⟩
    rw [hr0 false (fun h => by omega) (.inr rfl)]
    rfl
  focus (refine S_seq rfl ?_; refine S_region rfl rfl ?_; (refine R_eff (E_boxa (cs := [.slice A L.length c, .func (.func 44) #[] #[]]) rfl) ?_ rfl rfl; rintro _ _ ⟨b, rfl, rfl⟩); refine R_p rfl ?_ rfl rfl; refine R_nil ?_; refine S_seq rfl ?_; refine S_seq rfl ?_; refine S_region rfl rfl ?_; refine R_p rfl ?_ rfl rfl; refine R_take (T_load rfl rfl rfl (by first | rfl | assumption)) ?_ rfl rfl; refine R_p rfl ?_ rfl rfl; refine R_take (T_decF rfl (by omega)) ?_ rfl rfl; refine R_nil ?_; refine S_false rfl rfl ?_; refine S_skip rfl ?_; refine S_seq rfl ?_; refine S_seq rfl ?_; refine S_region rfl rfl ?_; refine R_p rfl ?_ rfl rfl; refine R_take (T_load rfl rfl rfl (by first | rfl | assumption)) ?_ rfl rfl; refine R_p rfl ?_ rfl rfl; refine R_p rfl ?_ rfl rfl; refine R_nil ?_; refine S_block rfl ?_)
  refine S_loop (X := Nat) (fun j => [(1, .pointer (some ⟨b, 0, none⟩)), (10, .slice A L.length c), (11, .int .i64 (L.length : Int)), (12, .int .i64 (j : Int))]) (fun _ => [pt b 77 [.slice A L.length c, .func (.func 44) #[] #[]]]) (fun j => j ≤ L.length ∧ incN (L.map (·.1)) j = true) (fun j => L.length - j) rfl 0 ⟨Nat.zero_le _, rfl⟩ (Sub.cons rfl (Sub.cons rfl (Sub.cons rfl (Sub.cons rfl Sub.nil)))) sub_st ?_
  rintro j ⟨hj, hok⟩ J hJ
  rcases Nat.lt_or_ge j L.length with hjl | hjl
  · have hne := hne (by omega)
    have hat := cellsL_at (f := chc) chc_len L default j hjl
    have hmem : L.getD j default ∈ L := by simp [List.getD, hjl]
    have hnx := inc_next (L.map (·.1)) j
    rw [hok, Bool.true_and, stepB, map_getD L j hjl] at hnx
    have hbd := fun hb => inc_bad (ps := L.map (·.1)) (j := j) (n := L.length) hjl hb
    rw [stepB, map_getD L j hjl] at hbd
    have hpl := hp _ hmem
    obtain ⟨x, hx⟩ : ∃ x, L.getD j default = x := ⟨_, rfl⟩
    rw [hx] at hat hmem hnx hbd hpl
    obtain ⟨s, hxs⟩ : ∃ s, x.1 = s := ⟨_, rfl⟩
    rw [hxs] at hnx hbd hpl
    obtain ⟨r, hr⟩ : ∃ r, pathB s = r := ⟨_, rfl⟩
    rw [hr] at hnx hbd
    focus (refine S_seq rfl ?_; refine S_region rfl rfl ?_; refine R_take (T_decT rfl (by omega)) ?_ rfl rfl; refine R_nil ?_; refine S_seq rfl ?_; refine S_true rfl rfl ?_; refine S_skip rfl ?_; refine S_seq rfl ?_; refine S_block rfl ?_; refine S_seq rfl ?_; refine S_region rfl rfl ?_; refine R_p rfl ?_ rfl rfl; refine R_take (T_ixM (sz := 3) rfl rfl rfl rfl rfl rfl hne hjl) ?_ rfl rfl; refine R_take (T_lda (ds := chc x) rfl rfl rfl (Srd.old h (fun k _ => noOwns k)) rfl (by omega) hat) ?_ rfl rfl; (refine R_eff (E_alloca rfl chc_zero) ?_ rfl rfl; rintro _ _ ⟨b4, rfl, rfl⟩); refine R_p rfl ?_ rfl rfl; (refine R_eff0 (E_storew (cs := chc default) (ds := chc x) rfl rfl rfl rfl (chc_one _) rfl) ?_ rfl; rintro _ _ rfl); refine R_nil ?_; refine S_seq rfl ?_)
    cases r
    · skip
      refine S_draw ([pt b4 42 (chc x), pt b 77 [.slice A L.length c, .func (.func 44) #[] #[]]]) sub_st (by kernel_rfl) rfl (by kernel_rfl) (by kernel_rfl : _ = 26) ?_
      refine D_take 0 rfl (pev_ok rfl) ?_ rfl rfl (by kernel_rfl) (by kernel_rfl)
      refine D_take 1 rfl (T_load rfl rfl rfl (by first | rfl | assumption)) ?_ rfl rfl (by kernel_rfl) (by kernel_rfl)
      refine D_take 2 rfl (T_loada (ds := chc x) rfl rfl rfl rfl (fun j v h => by simpa using h)) ?_ rfl rfl (by kernel_rfl) (by kernel_rfl)
      refine D_one 3 rfl (E_cchangePath (a := x) rfl rfl hxs) ?_ rfl rfl (by kernel_rfl)
      rintro _ _ ⟨rfl, rfl⟩
      refine Nx_same sub_st ?_
      refine D_one 4 rfl (E_pathW (a := s) (r := false) rfl hpl hr) ?_ rfl rfl (by kernel_rfl)
      rintro _ _ ⟨rfl, rfl⟩
      refine Nx_same sub_st ?_
      refine D_take 5 rfl (T_not rfl) ?_ rfl rfl (by kernel_rfl) (by kernel_rfl)
      refine D_take 6 rfl (pev_ok rfl) ?_ rfl rfl (by kernel_rfl) (by kernel_rfl)
      refine D_skip 7 rfl ?_ rfl rfl (by kernel_rfl) (by kernel_rfl)
      refine D_skip 8 rfl ?_ rfl rfl (by kernel_rfl) (by kernel_rfl)
      refine D_skip 9 rfl ?_ rfl rfl (by kernel_rfl) (by kernel_rfl)
      refine D_skip 10 rfl ?_ rfl rfl (by kernel_rfl) (by kernel_rfl)
      refine D_skip 11 rfl ?_ rfl rfl (by kernel_rfl) (by kernel_rfl)
      refine D_skip 12 rfl ?_ rfl rfl (by kernel_rfl) (by kernel_rfl)
      refine D_skip 13 rfl ?_ rfl rfl (by kernel_rfl) (by kernel_rfl)
      refine D_skip 14 rfl ?_ rfl rfl (by kernel_rfl) (by kernel_rfl)
      refine D_skip 15 rfl ?_ rfl rfl (by kernel_rfl) (by kernel_rfl)
      refine D_skip 16 rfl ?_ rfl rfl (by kernel_rfl) (by kernel_rfl)
      refine D_skip 17 rfl ?_ rfl rfl (by kernel_rfl) (by kernel_rfl)
      refine D_skip 18 rfl ?_ rfl rfl (by kernel_rfl) (by kernel_rfl)
      refine D_skip 19 rfl ?_ rfl rfl (by kernel_rfl) (by kernel_rfl)
      refine D_skip 20 rfl ?_ rfl rfl (by kernel_rfl) (by kernel_rfl)
      refine D_skip 21 rfl ?_ rfl rfl (by kernel_rfl) (by kernel_rfl)
      refine D_skip 22 rfl ?_ rfl rfl (by kernel_rfl) (by kernel_rfl)
      refine D_skip 23 rfl ?_ rfl rfl (by kernel_rfl) (by kernel_rfl)
      refine D_skip 24 rfl ?_ rfl rfl (by kernel_rfl) (by kernel_rfl)
      refine D_take 25 rfl (pev_ok rfl) ?_ rfl rfl (by kernel_rfl) (by kernel_rfl)
      refine D_done ?_ (by kernel_rfl)
      skip
      focus (refine S_true rfl rfl ?_; refine S_seq rfl ?_; refine S_region rfl rfl ?_; refine R_p rfl ?_ rfl rfl; refine R_nil ?_)
      refine hB _ _ _ _ _ rfl rfl fun w' hS => ⟨(), ?_, trivial, hS.sublist (List.nil_sublist _)⟩
      rw [hr0 false (fun _ => hbd rfl) (.inr rfl)]
      rfl
    rcases Nat.eq_zero_or_pos j with hj0 | hj0
    · subst hj0
      refine S_draw ([pt b4 42 (chc x), pt b 77 [.slice A L.length c, .func (.func 44) #[] #[]]]) sub_st (by kernel_rfl) rfl (by kernel_rfl) (by kernel_rfl : _ = 26) ?_
      refine D_take 0 rfl (pev_ok rfl) ?_ rfl rfl (by kernel_rfl) (by kernel_rfl)
      refine D_take 1 rfl (T_load rfl rfl rfl (by first | rfl | assumption)) ?_ rfl rfl (by kernel_rfl) (by kernel_rfl)
      refine D_take 2 rfl (T_loada (ds := chc x) rfl rfl rfl rfl (fun j v h => by simpa using h)) ?_ rfl rfl (by kernel_rfl) (by kernel_rfl)
      refine D_one 3 rfl (E_cchangePath (a := x) rfl rfl hxs) ?_ rfl rfl (by kernel_rfl)
      rintro _ _ ⟨rfl, rfl⟩
      refine Nx_same sub_st ?_
      refine D_one 4 rfl (E_pathW (a := s) (r := true) rfl hpl hr) ?_ rfl rfl (by kernel_rfl)
      rintro _ _ ⟨rfl, rfl⟩
      refine Nx_same sub_st ?_
      refine D_take 5 rfl (T_not rfl) ?_ rfl rfl (by kernel_rfl) (by kernel_rfl)
      refine D_take 6 rfl (pev_ok rfl) ?_ rfl rfl (by kernel_rfl) (by kernel_rfl)
      refine D_take 7 rfl (pev_ok rfl) ?_ rfl rfl (by kernel_rfl) (by kernel_rfl)
      refine D_take 8 rfl (T_decF rfl (by omega)) ?_ rfl rfl (by kernel_rfl) (by kernel_rfl)
      refine D_take 9 rfl (pev_ok rfl) ?_ rfl rfl (by kernel_rfl) (by kernel_rfl)
      refine D_skip 10 rfl ?_ rfl rfl (by kernel_rfl) (by kernel_rfl)
      refine D_skip 11 rfl ?_ rfl rfl (by kernel_rfl) (by kernel_rfl)
      refine D_skip 12 rfl ?_ rfl rfl (by kernel_rfl) (by kernel_rfl)
      refine D_skip 13 rfl ?_ rfl rfl (by kernel_rfl) (by kernel_rfl)
      refine D_skip 14 rfl ?_ rfl rfl (by kernel_rfl) (by kernel_rfl)
      refine D_skip 15 rfl ?_ rfl rfl (by kernel_rfl) (by kernel_rfl)
      refine D_skip 16 rfl ?_ rfl rfl (by kernel_rfl) (by kernel_rfl)
      refine D_skip 17 rfl ?_ rfl rfl (by kernel_rfl) (by kernel_rfl)
      refine D_skip 18 rfl ?_ rfl rfl (by kernel_rfl) (by kernel_rfl)
      refine D_skip 19 rfl ?_ rfl rfl (by kernel_rfl) (by kernel_rfl)
      refine D_skip 20 rfl ?_ rfl rfl (by kernel_rfl) (by kernel_rfl)
      refine D_skip 21 rfl ?_ rfl rfl (by kernel_rfl) (by kernel_rfl)
      refine D_skip 22 rfl ?_ rfl rfl (by kernel_rfl) (by kernel_rfl)
      refine D_skip 23 rfl ?_ rfl rfl (by kernel_rfl) (by kernel_rfl)
      refine D_take 24 rfl (pev_ok rfl) ?_ rfl rfl (by kernel_rfl) (by kernel_rfl)
      refine D_take 25 rfl (pev_ok rfl) ?_ rfl rfl (by kernel_rfl) (by kernel_rfl)
      refine D_done ?_ (by kernel_rfl)
      skip
      focus (refine S_false rfl rfl ?_; refine S_skip rfl ?_; refine RS_blk ?_; refine S_region rfl rfl ?_; refine R_take (T_addN rfl rfl (by unfold fits; omega)) ?_ rfl rfl; refine R_p rfl ?_ rfl rfl; refine R_nil ?_)
      exact hJ 1 _ _ ⟨by omega, hnx⟩ (Sub.cons rfl (Sub.cons rfl (Sub.cons rfl (Sub.cons rfl Sub.nil)))) sub_st (by omega)
    obtain ⟨i, rfl⟩ : ∃ i, j = i + 1 := ⟨j - 1, by omega⟩
    have hat2 := cellsL_at (f := chc) chc_len L default i (by omega)
    rw [Nat.add_sub_cancel, map_getD L i (by omega)] at hnx hbd
    obtain ⟨y, hy⟩ : ∃ y, L.getD i default = y := ⟨_, rfl⟩
    rw [hy] at hat2 hnx hbd
    obtain ⟨u, hyu⟩ : ∃ u, y.1 = u := ⟨_, rfl⟩
    rw [hyu] at hnx hbd
    have hcm : scmp .geq u s = some (!Op.bytesLess u s) := rfl
    obtain ⟨q, hq⟩ : ∃ q, Op.bytesLess u s = q := ⟨_, rfl⟩
    rw [hq] at hnx hbd hcm
    refine S_cut (X := Unit) (fun _ => [(1, .pointer (some ⟨b, 0, none⟩)), (10, .slice A L.length c), (11, .int .i64 (L.length : Int)), (12, .int .i64 ((i + 1 : Nat) : Int)), (42, .bool (!q))]) (fun _ => [pt b 77 [.slice A L.length c, .func (.func 44) #[] #[]]]) (fun _ => True) ?_ ?_
    · intro J hJ
      refine S_draw ([pt b4 42 (chc x), pt b 77 [.slice A L.length c, .func (.func 44) #[] #[]]]) sub_st (by kernel_rfl) rfl (by kernel_rfl) (by kernel_rfl : _ = 26) ?_
      refine D_take 0 rfl (pev_ok rfl) ?_ rfl rfl (by kernel_rfl) (by kernel_rfl)
      refine D_take 1 rfl (T_load rfl rfl rfl (by first | rfl | assumption)) ?_ rfl rfl (by kernel_rfl) (by kernel_rfl)
      refine D_take 2 rfl (T_loada (ds := chc x) rfl rfl rfl rfl (fun j v h => by simpa using h)) ?_ rfl rfl (by kernel_rfl) (by kernel_rfl)
      refine D_one 3 rfl (E_cchangePath (a := x) rfl rfl hxs) ?_ rfl rfl (by kernel_rfl)
      rintro _ _ ⟨rfl, rfl⟩
      refine Nx_same sub_st ?_
      refine D_one 4 rfl (E_pathW (a := s) (r := true) rfl hpl hr) ?_ rfl rfl (by kernel_rfl)
      rintro _ _ ⟨rfl, rfl⟩
      refine Nx_same sub_st ?_
      refine D_take 5 rfl (T_not rfl) ?_ rfl rfl (by kernel_rfl) (by kernel_rfl)
      refine D_take 6 rfl (pev_ok rfl) ?_ rfl rfl (by kernel_rfl) (by kernel_rfl)
      refine D_take 7 rfl (pev_ok rfl) ?_ rfl rfl (by kernel_rfl) (by kernel_rfl)
      refine D_take 8 rfl (T_decT rfl (by omega)) ?_ rfl rfl (by kernel_rfl) (by kernel_rfl)
      refine D_take 9 rfl (pev_ok rfl) ?_ rfl rfl (by kernel_rfl) (by kernel_rfl)
      refine D_take 10 rfl (pev_ok rfl) ?_ rfl rfl (by kernel_rfl) (by kernel_rfl)
      refine D_take 11 rfl (T_load rfl rfl rfl (by first | rfl | assumption)) ?_ rfl rfl (by kernel_rfl) (by kernel_rfl)
      refine D_take 12 rfl (pev_ok rfl) ?_ rfl rfl (by kernel_rfl) (by kernel_rfl)
      refine D_take 13 rfl (T_load rfl rfl rfl (by first | rfl | assumption)) ?_ rfl rfl (by kernel_rfl) (by kernel_rfl)
      refine D_take 14 rfl (pev_ok rfl) ?_ rfl rfl (by kernel_rfl) (by kernel_rfl)
      (refine D_take 15 rfl (T_subN rfl rfl (by omega) (by unfold fits; omega)) ?_ rfl rfl (by kernel_rfl) (by kernel_rfl))
      refine D_take 16 rfl (T_ixM (sz := 3) (q := i) rfl rfl rfl rfl rfl rfl hne (by omega)) ?_ rfl rfl (by kernel_rfl) (by kernel_rfl)
      refine D_take 17 rfl (T_lda (ds := chc y) rfl rfl rfl (Srd.old h (fun k _ => noOwns k)) rfl (by omega) hat2) ?_ rfl rfl (by kernel_rfl) (by kernel_rfl)
      refine D_take 19 rfl (pev_ok rfl) ?_ rfl rfl (by kernel_rfl) (by kernel_rfl)
      refine D_take 20 rfl (T_load rfl rfl rfl (by first | rfl | assumption)) ?_ rfl rfl (by kernel_rfl) (by kernel_rfl)
      refine D_take 21 rfl (T_loada (ds := chc x) rfl rfl rfl rfl (fun j v h => by simpa using h)) ?_ rfl rfl (by kernel_rfl) (by kernel_rfl)
      refine D_one 18 rfl (E_cchangePath (a := y) rfl rfl hyu) ?_ rfl rfl (by kernel_rfl)
      rintro _ _ ⟨rfl, rfl⟩
      refine Nx_same sub_st ?_
      refine D_one 22 rfl (E_cchangePath (a := x) rfl rfl hxs) ?_ rfl rfl (by kernel_rfl)
      rintro _ _ ⟨rfl, rfl⟩
      refine Nx_same sub_st ?_
      refine D_take 23 rfl (T_scm (a := u) (b := s) rfl rfl hcm) ?_ rfl rfl (by kernel_rfl) (by kernel_rfl)
      refine D_take 24 rfl (pev_ok rfl) ?_ rfl rfl (by kernel_rfl) (by kernel_rfl)
      refine D_take 25 rfl (pev_ok rfl) ?_ rfl rfl (by kernel_rfl) (by kernel_rfl)
      refine D_done ?_ (by kernel_rfl)
      exact hJ () _ _ trivial (Sub.cons rfl (Sub.cons rfl (Sub.cons rfl (Sub.cons rfl (Sub.cons rfl Sub.nil))))) sub_st
    rintro ⟨⟩ _
    cases q
    · --@arms:
      focus (refine S_true rfl rfl ?_; refine S_seq rfl ?_; refine S_region rfl rfl ?_; refine R_p rfl ?_ rfl rfl; refine R_nil ?_)
      refine hB _ _ _ _ _ rfl rfl fun w' hS => ⟨(), ?_, trivial, hS.sublist (List.nil_sublist _)⟩
      rw [hr0 false (fun _ => hbd (by simp)) (.inr rfl)]
      rfl
    · focus (refine S_false rfl rfl ?_; refine S_skip rfl ?_; refine RS_blk ?_; refine S_region rfl rfl ?_; refine R_take (T_addN rfl rfl (by unfold fits; omega)) ?_ rfl rfl; refine R_p rfl ?_ rfl rfl; refine R_nil ?_)
      exact hJ (i + 2) _ _ ⟨by omega, by rw [hnx]; simp⟩ (Sub.cons rfl (Sub.cons rfl (Sub.cons rfl (Sub.cons rfl Sub.nil)))) sub_st (by omega)
  have hjn : j = L.length := by omega
  subst hjn
  focus (refine S_seq rfl ?_; refine S_region rfl rfl ?_; refine R_take (T_decF rfl (by omega)) ?_ rfl rfl; refine R_nil ?_; refine S_seq rfl ?_; refine S_false rfl rfl ?_; refine S_exit rfl rfl ?_; refine S_seq rfl ?_; refine S_region rfl rfl ?_; refine R_p rfl ?_ rfl rfl; refine R_nil ?_)
  refine hB _ _ _ _ _ rfl rfl fun w' hS => ⟨(), ?_, trivial, hS.sublist (List.nil_sublist _)⟩
  rw [hr0 true (fun _ => hok) (.inl h32)]
  rfl
end Go.Proofs.Ytebbnbddlnpldaa
