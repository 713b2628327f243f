/- Apply as a step; large, copied, copiedEdit, wakes. -/
import Derived.Test.YtebbnbddlnpldaaPmB
namespace Go.Proofs.Ytebbnbddlnpldaa
open Go.RowKit
open Asn (pt row rb)
set_option linter.unusedVariables false
set_option linter.unusedSimpArgs false
--@use N

theorem ch_ones (L : List Ch) : ∀ v ∈ cellsL chc L, v.oneCell' = true := fun v hv => by
  obtain ⟨x, _, hx⟩ := List.mem_flatMap.1 hv
  exact chc_one x v hx
theorem ch_built1 (s : Str) : Try.prog.built 42 [(0, sv s)] = some (chc (s, false, [])).toArray := by kernel_rfl
theorem ch_built3 (s t : Str) (b : Bool) : Try.prog.built 42 [(0, sv s), (1, .bool b), (2, sv t)] = some (chc (s, b, t)).toArray := by kernel_rfl
section
variable {n : Nat} {w0 : World} {M : Nat → Prop} {T : Slots} {H : List Asn} {dd : Option Tmp} {tt : TypeId} {pos : String} {af : Array Edge} {g : Option (Nat × Bool)} {x y z : Operand} {ts : Array TypeId} {A A2 : Option Addr} {m c m2 c2 : Nat}
theorem E_applyW {L : List Rw} {C : List Ch} {R : List Rw} {e : Int} {k : Nat} (hx : oget T x = some (.agg #[.slice A m c])) (hy : oget T y = some (.agg #[.slice A2 m2 c2])) (hs : Srd w0 M H 2 A m (cellsL rwc L)) (hs2 : Srd w0 M H 3 A2 m2 (cellsL chc C)) (hm : m ≤ 100000) (hm2 : m2 ≤ 100000) (hp : ∀ x ∈ L, x.1.length ≤ 100000) (hp2 : ∀ x ∈ C, x.1.length ≤ 100000) (hR : appR L C = R) (he : appE L C = e) (hk : R.length = k) :
    Ef Try.prog n w0 M T H ⟨dd, .call ⟨.value (.func 11), #[x, y], ts⟩, tt, pos, af, g⟩ (fun u H' => ∃ A' c', u = .tuple #[.agg #[.slice A' k c'], zi e] ∧ (0 < k → A' ≠ none) ∧ H' = row 56 2 A' k c' (cellsL rwc R) :: H) := by
  subst hR
  subst he
  subst hk
  refine (E_gv1 ⟨_, Try.func11, rfl, by kernel_rfl⟩ (vs := [.agg #[.slice A m c], .agg #[.slice A2 m2 c2]]) (by simp [ogets, hx, hy]) (fun w hS => apply_any w A A2 m c m2 c2 L C (hs.rd w hS) (hs2.rd w hS) hm hm2 hp hp2) (fun _ => rfl)).mono ?_
  rintro v H' ⟨⟨A', c'⟩, rfl, _, rfl⟩ w hS
  exact ⟨_, _, rfl, ⟨A', c', rfl, (row_facts (hS.at_ (A := row 56 2 A' (appR L C).length c' (cellsL rwc (appR L C))) (by simp))).2.2.1, rfl⟩, hS⟩
end
def smallR (L : List Rw) : Prop := L.length ≤ 100 ∧ ∀ x ∈ L, x.1.length ≤ 500 ∧ x.2.length ≤ 5000
def smallC (L : List Ch) : Prop := L.length ≤ 100 ∧ ∀ x ∈ L, x.1.length ≤ 500 ∧ x.2.2.length ≤ 5000
set_option maxRecDepth 100000 in
set_option maxHeartbeats 4000000 in
theorem large_any (w : World) (A A2 : Option Addr) (n c n2 c2 : Nat) (L : List Rw) (C : List Ch) (h : Rd w All 2 A n (cellsL rwc L)) (h2 : Rd w All 3 A2 n2 (cellsL chc C)) :
    Gives Try.prog 10 [.agg #[.slice A n c], .agg #[.slice A2 n2 c2]] [] w (X := Bool) (fun b => .bool b) (fun b => b = false → smallR L ∧ smallC C) (fun _ => []) := by
  refine gives_S Try.func10 rfl Try.ntmps10 Try.results10 (by simp) (St.enter w) (fun B hB => ?_)
  have hl : L.length = n := by have := h.1; rw [cellsL_len rwc_len] at this; omega
  have hl2 : C.length = n2 := by have := h2.1; rw [cellsL_len chc_len] at this; omega
  subst hl
  subst hl2
  have hne : 0 < L.length → A ≠ none := fun h0 => by obtain ⟨ad, rfl, _⟩ := h.2 (by omega); simp
  have hne2 : 0 < C.length → A2 ≠ none := fun h0 => by obtain ⟨ad, rfl, _⟩ := h2.2 (by omega); simp
  by_cases h100 : 100 < L.length
  · skip
    focus (refine S_seq rfl ?_; refine S_region rfl rfl ?_; (refine R_eff (E_boxa (cs := [.slice A L.length c]) rfl) ?_ rfl rfl; rintro _ _ ⟨b2, rfl, rfl⟩); (refine R_eff (E_boxa (cs := [.slice A2 C.length c2]) rfl) ?_ rfl rfl; rintro _ _ ⟨b3, rfl, rfl⟩); refine R_p rfl ?_ rfl rfl; refine R_nil ?_; refine S_seq rfl ?_; refine S_seq rfl ?_; refine S_region rfl rfl ?_; refine R_p rfl ?_ rfl rfl; refine R_take (T_load rfl rfl rfl (by first | rfl | assumption)) ?_ rfl rfl; refine R_p rfl ?_ rfl rfl; refine R_take (T_decT rfl (by omega)) ?_ rfl rfl; refine R_p rfl ?_ rfl rfl; refine R_skip ?_ rfl rfl; refine R_skip ?_ rfl rfl; refine R_skip ?_ rfl rfl; refine R_skip ?_ rfl rfl; refine R_p rfl ?_ rfl rfl; refine R_nil ?_; refine S_true rfl rfl ?_; refine S_seq rfl ?_; refine S_region rfl rfl ?_; refine R_p rfl ?_ rfl rfl; refine R_nil ?_)
    exact hB _ _ _ _ _ rfl rfl fun w' hS => ⟨true, rfl, fun h => (by cases h), hS.sublist (List.nil_sublist _)⟩
  by_cases h101 : 100 < C.length
  · focus (refine S_seq rfl ?_; refine S_region rfl rfl ?_; (refine R_eff (E_boxa (cs := [.slice A L.length c]) rfl) ?_ rfl rfl; rintro _ _ ⟨b2, rfl, rfl⟩); (refine R_eff (E_boxa (cs := [.slice A2 C.length c2]) rfl) ?_ rfl rfl; rintro _ _ ⟨b3, rfl, rfl⟩); refine R_p rfl ?_ rfl rfl; refine R_nil ?_; refine S_seq rfl ?_; refine S_seq rfl ?_; refine S_region rfl rfl ?_; refine R_p rfl ?_ rfl rfl; refine R_take (T_load rfl rfl rfl (by first | rfl | assumption)) ?_ rfl rfl; refine R_p rfl ?_ rfl rfl; refine R_take (T_decF rfl (by omega)) ?_ rfl rfl; refine R_p rfl ?_ rfl rfl; refine R_p rfl ?_ rfl rfl; refine R_take (T_load rfl rfl rfl (by first | rfl | assumption)) ?_ rfl rfl; refine R_p rfl ?_ rfl rfl; refine R_take (T_decT rfl (by omega)) ?_ rfl rfl; refine R_p rfl ?_ rfl rfl; refine R_nil ?_; refine S_true rfl rfl ?_; refine S_seq rfl ?_; refine S_region rfl rfl ?_; refine R_p rfl ?_ rfl rfl; refine R_nil ?_)
    exact hB _ _ _ _ _ rfl rfl fun w' hS => ⟨true, rfl, fun h => (by cases h), hS.sublist (List.nil_sublist _)⟩
  focus (refine S_seq rfl ?_; refine S_region rfl rfl ?_; (refine R_eff (E_boxa (cs := [.slice A L.length c]) rfl) ?_ rfl rfl; rintro _ _ ⟨b2, rfl, rfl⟩); (refine R_eff (E_boxa (cs := [.slice A2 C.length c2]) rfl) ?_ rfl rfl; rintro _ _ ⟨b3, rfl, rfl⟩); refine R_p rfl ?_ rfl rfl; refine R_nil ?_; refine S_seq rfl ?_; refine S_seq rfl ?_; refine S_region rfl rfl ?_; refine R_p rfl ?_ rfl rfl; refine R_take (T_load rfl rfl rfl (by first | rfl | assumption)) ?_ rfl rfl; refine R_p rfl ?_ rfl rfl; refine R_take (T_decF rfl (by omega)) ?_ rfl rfl; refine R_p rfl ?_ rfl rfl; refine R_p rfl ?_ rfl rfl; refine R_take (T_load rfl rfl rfl (by first | rfl | assumption)) ?_ rfl rfl; refine R_p rfl ?_ rfl rfl; refine R_take (T_decF rfl (by omega)) ?_ rfl rfl; refine R_p rfl ?_ rfl rfl; refine R_nil ?_; refine S_false rfl rfl ?_; refine S_skip rfl ?_; refine S_seq rfl ?_; refine S_seq rfl ?_; refine S_region rfl rfl ?_; refine R_p rfl ?_ rfl rfl; refine R_take (T_load rfl rfl rfl (by first | rfl | assumption)) ?_ rfl rfl; refine R_p rfl ?_ rfl rfl; refine R_p rfl ?_ rfl rfl; refine R_nil ?_; refine S_block rfl ?_)
  refine S_loop (X := Nat) (fun j => [(3, .pointer (some ⟨b3, 0, none⟩)), (20, .slice A L.length c), (21, .int .i64 (L.length : Int)), (22, .int .i64 (j : Int))]) (fun _ => [pt b3 27 [.slice A2 C.length c2]]) (fun j => j ≤ L.length ∧ ∀ x ∈ L.take j, x.1.length ≤ 500 ∧ x.2.length ≤ 5000) (fun j => L.length - j) rfl 0 ⟨Nat.zero_le _, by simp⟩ (Sub.cons rfl (Sub.cons rfl (Sub.cons rfl (Sub.cons rfl Sub.nil)))) sub_st ?_
  rintro j ⟨hj, hok⟩ J hJ
  rcases Nat.lt_or_ge j L.length with hjl | hjl
  · have hne := hne (by omega)
    have hat := cellsL_at (f := rwc) rwc_len L default j hjl
    have htk : L.take (j + 1) = L.take j ++ [L.getD j default] := by rw [List.take_succ_eq_append_getElem hjl]; simp [List.getD, hjl]
    obtain ⟨⟨s, t⟩, hx⟩ : ∃ x, L.getD j default = x := ⟨_, rfl⟩
    rw [hx] at hat htk
    by_cases hs5 : 500 < s.length
    · focus (refine S_seq rfl ?_; refine S_region rfl rfl ?_; refine R_take (T_decT rfl (by omega)) ?_ rfl rfl; refine R_nil ?_; refine S_seq rfl ?_; refine S_true rfl rfl ?_; refine S_skip rfl ?_; refine S_seq rfl ?_; refine S_block rfl ?_; refine S_seq rfl ?_; refine S_region rfl rfl ?_; refine R_take (T_ixM (sz := 2) rfl rfl rfl rfl rfl rfl hne hjl) ?_ rfl rfl; refine R_take (T_lda (ds := rwc (s, t)) rfl rfl rfl (Srd.old h (fun k _ => noOwns k)) rfl (by omega) hat) ?_ rfl rfl; (refine R_eff (E_alloca rfl rwc_zero) ?_ rfl rfl; rintro _ _ ⟨b6, rfl, rfl⟩); (refine R_eff0 (E_storew (cs := rwc default) (ds := rwc (s, t)) rfl rfl rfl rfl (rwc_one _) rfl) ?_ rfl; rintro _ _ rfl); refine R_nil ?_; refine S_seq rfl ?_; refine S_region rfl rfl ?_; refine R_p rfl ?_ rfl rfl; refine R_take (T_load rfl rfl rfl (by first | rfl | assumption)) ?_ rfl rfl; refine R_take (T_lens (a := s) rfl rfl rfl) ?_ rfl rfl; refine R_take (T_decT rfl (by omega)) ?_ rfl rfl; refine R_p rfl ?_ rfl rfl; refine R_skip ?_ rfl rfl; refine R_skip ?_ rfl rfl; refine R_skip ?_ rfl rfl; refine R_skip ?_ rfl rfl; refine R_p rfl ?_ rfl rfl; refine R_nil ?_; refine S_true rfl rfl ?_; refine S_seq rfl ?_; refine S_region rfl rfl ?_; refine R_p rfl ?_ rfl rfl; refine R_nil ?_)
      exact hB _ _ _ _ _ rfl rfl fun w' hS => ⟨true, rfl, fun h => (by cases h), hS.sublist (List.nil_sublist _)⟩
    by_cases ht5 : 5000 < t.length
    · focus (refine S_seq rfl ?_; refine S_region rfl rfl ?_; refine R_take (T_decT rfl (by omega)) ?_ rfl rfl; refine R_nil ?_; refine S_seq rfl ?_; refine S_true rfl rfl ?_; refine S_skip rfl ?_; refine S_seq rfl ?_; refine S_block rfl ?_; refine S_seq rfl ?_; refine S_region rfl rfl ?_; refine R_take (T_ixM (sz := 2) rfl rfl rfl rfl rfl rfl hne hjl) ?_ rfl rfl; refine R_take (T_lda (ds := rwc (s, t)) rfl rfl rfl (Srd.old h (fun k _ => noOwns k)) rfl (by omega) hat) ?_ rfl rfl; (refine R_eff (E_alloca rfl rwc_zero) ?_ rfl rfl; rintro _ _ ⟨b6, rfl, rfl⟩); (refine R_eff0 (E_storew (cs := rwc default) (ds := rwc (s, t)) rfl rfl rfl rfl (rwc_one _) rfl) ?_ rfl; rintro _ _ rfl); refine R_nil ?_; refine S_seq rfl ?_; refine S_region rfl rfl ?_; refine R_p rfl ?_ rfl rfl; refine R_take (T_load rfl rfl rfl (by first | rfl | assumption)) ?_ rfl rfl; refine R_take (T_lens (a := s) rfl rfl rfl) ?_ rfl rfl; refine R_take (T_decF rfl (by omega)) ?_ rfl rfl; refine R_p rfl ?_ rfl rfl; refine R_p rfl ?_ rfl rfl; refine R_take (T_load rfl rfl rfl (by first | rfl | assumption)) ?_ rfl rfl; refine R_take (T_lens (a := t) rfl rfl rfl) ?_ rfl rfl; refine R_take (T_decT rfl (by omega)) ?_ rfl rfl; refine R_p rfl ?_ rfl rfl; refine R_nil ?_; refine S_true rfl rfl ?_; refine S_seq rfl ?_; refine S_region rfl rfl ?_; refine R_p rfl ?_ rfl rfl; refine R_nil ?_)
      exact hB _ _ _ _ _ rfl rfl fun w' hS => ⟨true, rfl, fun h => (by cases h), hS.sublist (List.nil_sublist _)⟩
    focus (refine S_seq rfl ?_; refine S_region rfl rfl ?_; refine R_take (T_decT rfl (by omega)) ?_ rfl rfl; refine R_nil ?_; refine S_seq rfl ?_; refine S_true rfl rfl ?_; refine S_skip rfl ?_; refine S_seq rfl ?_; refine S_block rfl ?_; refine S_seq rfl ?_; refine S_region rfl rfl ?_; refine R_take (T_ixM (sz := 2) rfl rfl rfl rfl rfl rfl hne hjl) ?_ rfl rfl; refine R_take (T_lda (ds := rwc (s, t)) rfl rfl rfl (Srd.old h (fun k _ => noOwns k)) rfl (by omega) hat) ?_ rfl rfl; (refine R_eff (E_alloca rfl rwc_zero) ?_ rfl rfl; rintro _ _ ⟨b6, rfl, rfl⟩); (refine R_eff0 (E_storew (cs := rwc default) (ds := rwc (s, t)) rfl rfl rfl rfl (rwc_one _) rfl) ?_ rfl; rintro _ _ rfl); refine R_nil ?_; refine S_seq rfl ?_; refine S_region rfl rfl ?_; refine R_p rfl ?_ rfl rfl; refine R_take (T_load rfl rfl rfl (by first | rfl | assumption)) ?_ rfl rfl; refine R_take (T_lens (a := s) rfl rfl rfl) ?_ rfl rfl; refine R_take (T_decF rfl (by omega)) ?_ rfl rfl; refine R_p rfl ?_ rfl rfl; refine R_p rfl ?_ rfl rfl; refine R_take (T_load rfl rfl rfl (by first | rfl | assumption)) ?_ rfl rfl; refine R_take (T_lens (a := t) rfl rfl rfl) ?_ rfl rfl; refine R_take (T_decF rfl (by omega)) ?_ rfl rfl; refine R_p rfl ?_ rfl rfl; refine R_nil ?_; refine S_false rfl rfl ?_; refine S_skip rfl ?_; refine RS_blk ?_; refine S_region rfl rfl ?_; refine R_take (T_addN rfl rfl (by unfold fits; omega)) ?_ rfl rfl; refine R_p rfl ?_ rfl rfl; refine R_nil ?_)
    refine hJ (j + 1) _ _ ⟨by omega, fun x hx => ?_⟩ (Sub.cons rfl (Sub.cons rfl (Sub.cons rfl (Sub.cons rfl Sub.nil)))) sub_st (by omega)
    rw [htk] at hx
    rcases List.mem_append.1 hx with hx | hx
    · exact hok x hx
    · obtain rfl := List.mem_singleton.1 hx
      exact ⟨by show s.length ≤ _; omega, by show t.length ≤ _; omega⟩
  have hjn : j = L.length := by omega
  subst hjn
  rw [List.take_length] at hok
  have hsm : smallR L := ⟨by omega, hok⟩
  clear hJ hok hj hjl
  focus (refine S_seq rfl ?_; refine S_region rfl rfl ?_; refine R_take (T_decF rfl (by omega)) ?_ rfl rfl; refine R_nil ?_; refine S_seq rfl ?_; refine S_false rfl rfl ?_; refine S_exit rfl rfl ?_; refine S_seq rfl ?_; refine S_seq rfl ?_; refine S_region rfl rfl ?_; refine R_p rfl ?_ rfl rfl; refine R_take (T_load rfl rfl rfl (by first | rfl | assumption)) ?_ rfl rfl; refine R_p rfl ?_ rfl rfl; refine R_p rfl ?_ rfl rfl; refine R_nil ?_; refine S_block rfl ?_)
  refine S_loop (X := Nat) (fun j => [(38, .slice A2 C.length c2), (39, .int .i64 (C.length : Int)), (40, .int .i64 (j : Int))]) (fun _ => []) (fun j => j ≤ C.length ∧ ∀ x ∈ C.take j, x.1.length ≤ 500 ∧ x.2.2.length ≤ 5000) (fun j => C.length - j) rfl 0 ⟨Nat.zero_le _, by simp⟩ (Sub.cons rfl (Sub.cons rfl (Sub.cons rfl Sub.nil))) sub_st ?_
  rintro j ⟨hj, hok⟩ J hJ
  rcases Nat.lt_or_ge j C.length with hjl | hjl
  · have hne := hne2 (by omega)
    have hat := cellsL_at (f := chc) chc_len C default j hjl
    have htk : C.take (j + 1) = C.take j ++ [C.getD j default] := by rw [List.take_succ_eq_append_getElem hjl]; simp [List.getD, hjl]
    obtain ⟨⟨s, is, t⟩, hx⟩ : ∃ x, C.getD j default = x := ⟨_, rfl⟩
    rw [hx] at hat htk
    by_cases hs5 : 500 < s.length
    · focus (refine S_seq rfl ?_; refine S_region rfl rfl ?_; refine R_take (T_decT rfl (by omega)) ?_ rfl rfl; refine R_nil ?_; refine S_seq rfl ?_; refine S_true rfl rfl ?_; refine S_skip rfl ?_; refine S_seq rfl ?_; refine S_block rfl ?_; refine S_seq rfl ?_; refine S_region rfl rfl ?_; refine R_take (T_ixM (sz := 3) rfl rfl rfl rfl rfl rfl hne hjl) ?_ rfl rfl; refine R_take (T_lda (ds := chc (s, is, t)) rfl rfl rfl (Srd.old h2 (fun k _ => noOwns k)) rfl (by omega) hat) ?_ rfl rfl; (refine R_eff (E_alloca rfl chc_zero) ?_ rfl rfl; rintro _ _ ⟨b6, rfl, rfl⟩); (refine R_eff0 (E_storew (cs := chc default) (ds := chc (s, is, t)) rfl rfl rfl rfl (chc_one _) rfl) ?_ rfl; rintro _ _ rfl); refine R_nil ?_; refine S_seq rfl ?_; refine S_region rfl rfl ?_; refine R_p rfl ?_ rfl rfl; refine R_take (T_load rfl rfl rfl (by first | rfl | assumption)) ?_ rfl rfl; refine R_take (T_lens (a := s) rfl rfl rfl) ?_ rfl rfl; refine R_take (T_decT rfl (by omega)) ?_ rfl rfl; refine R_p rfl ?_ rfl rfl; refine R_skip ?_ rfl rfl; refine R_skip ?_ rfl rfl; refine R_skip ?_ rfl rfl; refine R_skip ?_ rfl rfl; refine R_p rfl ?_ rfl rfl; refine R_nil ?_; refine S_true rfl rfl ?_; refine S_seq rfl ?_; refine S_region rfl rfl ?_; refine R_p rfl ?_ rfl rfl; refine R_nil ?_)
      exact hB _ _ _ _ _ rfl rfl fun w' hS => ⟨true, rfl, fun h => (by cases h), hS.sublist (List.nil_sublist _)⟩
    by_cases ht5 : 5000 < t.length
    · focus (refine S_seq rfl ?_; refine S_region rfl rfl ?_; refine R_take (T_decT rfl (by omega)) ?_ rfl rfl; refine R_nil ?_; refine S_seq rfl ?_; refine S_true rfl rfl ?_; refine S_skip rfl ?_; refine S_seq rfl ?_; refine S_block rfl ?_; refine S_seq rfl ?_; refine S_region rfl rfl ?_; refine R_take (T_ixM (sz := 3) rfl rfl rfl rfl rfl rfl hne hjl) ?_ rfl rfl; refine R_take (T_lda (ds := chc (s, is, t)) rfl rfl rfl (Srd.old h2 (fun k _ => noOwns k)) rfl (by omega) hat) ?_ rfl rfl; (refine R_eff (E_alloca rfl chc_zero) ?_ rfl rfl; rintro _ _ ⟨b6, rfl, rfl⟩); (refine R_eff0 (E_storew (cs := chc default) (ds := chc (s, is, t)) rfl rfl rfl rfl (chc_one _) rfl) ?_ rfl; rintro _ _ rfl); refine R_nil ?_; refine S_seq rfl ?_; refine S_region rfl rfl ?_; refine R_p rfl ?_ rfl rfl; refine R_take (T_load rfl rfl rfl (by first | rfl | assumption)) ?_ rfl rfl; refine R_take (T_lens (a := s) rfl rfl rfl) ?_ rfl rfl; refine R_take (T_decF rfl (by omega)) ?_ rfl rfl; refine R_p rfl ?_ rfl rfl; refine R_p rfl ?_ rfl rfl; refine R_take (T_load rfl rfl rfl (by first | rfl | assumption)) ?_ rfl rfl; refine R_take (T_lens (a := t) rfl rfl rfl) ?_ rfl rfl; refine R_take (T_decT rfl (by omega)) ?_ rfl rfl; refine R_p rfl ?_ rfl rfl; refine R_nil ?_; refine S_true rfl rfl ?_; refine S_seq rfl ?_; refine S_region rfl rfl ?_; refine R_p rfl ?_ rfl rfl; refine R_nil ?_)
      exact hB _ _ _ _ _ rfl rfl fun w' hS => ⟨true, rfl, fun h => (by cases h), hS.sublist (List.nil_sublist _)⟩
    focus (refine S_seq rfl ?_; refine S_region rfl rfl ?_; refine R_take (T_decT rfl (by omega)) ?_ rfl rfl; refine R_nil ?_; refine S_seq rfl ?_; refine S_true rfl rfl ?_; refine S_skip rfl ?_; refine S_seq rfl ?_; refine S_block rfl ?_; refine S_seq rfl ?_; refine S_region rfl rfl ?_; refine R_take (T_ixM (sz := 3) rfl rfl rfl rfl rfl rfl hne hjl) ?_ rfl rfl; refine R_take (T_lda (ds := chc (s, is, t)) rfl rfl rfl (Srd.old h2 (fun k _ => noOwns k)) rfl (by omega) hat) ?_ rfl rfl; (refine R_eff (E_alloca rfl chc_zero) ?_ rfl rfl; rintro _ _ ⟨b6, rfl, rfl⟩); (refine R_eff0 (E_storew (cs := chc default) (ds := chc (s, is, t)) rfl rfl rfl rfl (chc_one _) rfl) ?_ rfl; rintro _ _ rfl); refine R_nil ?_; refine S_seq rfl ?_; refine S_region rfl rfl ?_; refine R_p rfl ?_ rfl rfl; refine R_take (T_load rfl rfl rfl (by first | rfl | assumption)) ?_ rfl rfl; refine R_take (T_lens (a := s) rfl rfl rfl) ?_ rfl rfl; refine R_take (T_decF rfl (by omega)) ?_ rfl rfl; refine R_p rfl ?_ rfl rfl; refine R_p rfl ?_ rfl rfl; refine R_take (T_load rfl rfl rfl (by first | rfl | assumption)) ?_ rfl rfl; refine R_take (T_lens (a := t) rfl rfl rfl) ?_ rfl rfl; refine R_take (T_decF rfl (by omega)) ?_ rfl rfl; refine R_p rfl ?_ rfl rfl; refine R_nil ?_; refine S_false rfl rfl ?_; refine S_skip rfl ?_; refine RS_blk ?_; refine S_region rfl rfl ?_; refine R_take (T_addN rfl rfl (by unfold fits; omega)) ?_ rfl rfl; refine R_p rfl ?_ rfl rfl; refine R_nil ?_)
    refine hJ (j + 1) _ _ ⟨by omega, fun x hx => ?_⟩ (Sub.cons rfl (Sub.cons rfl (Sub.cons rfl Sub.nil))) sub_st (by omega)
    rw [htk] at hx
    rcases List.mem_append.1 hx with hx | hx
    · exact hok x hx
    · obtain rfl := List.mem_singleton.1 hx
      exact ⟨by show s.length ≤ _; omega, by show t.length ≤ _; omega⟩
  have hjn : j = C.length := by omega
  subst hjn
  rw [List.take_length] at hok
  focus (refine S_seq rfl ?_; refine S_region rfl rfl ?_; refine R_take (T_decF rfl (by omega)) ?_ rfl rfl; refine R_nil ?_; refine S_seq rfl ?_; refine S_false rfl rfl ?_; refine S_exit rfl rfl ?_; refine S_seq rfl ?_; refine S_region rfl rfl ?_; refine R_p rfl ?_ rfl rfl; refine R_nil ?_)
  exact hB _ _ _ _ _ rfl rfl fun w' hS => ⟨false, rfl, fun _ => ⟨hsm, by omega, hok⟩, hS.sublist (List.nil_sublist _)⟩
set_option maxRecDepth 100000 in
set_option maxHeartbeats 4000000 in
theorem copied_any (w : World) (A : Option Addr) (n c : Nat) (L : List Rw) (h : Rd w All 2 A n (cellsL rwc L)) (hn : n ≤ 1000) :
    Gives Try.prog 12 [.agg #[.slice A n c]] [] w (X := Option Addr × Nat) (fun x => .agg #[.slice x.1 n x.2]) (fun _ => True) (fun x => [row 56 2 x.1 n x.2 (cellsL rwc L)]) := by
  refine gives_C Try.func12 rfl Try.ntmps12 Try.results12 (by simp) (St.enter w) (fun B hB => ?_)
  focus (refine S_seq rfl ?_; refine S_region rfl rfl ?_; (refine R_eff (E_boxa (cs := [.slice A n c]) rfl) ?_ rfl rfl; rintro _ _ ⟨b1, rfl, rfl⟩); (refine R_eff (E_alloca rfl mp_alloc) ?_ rfl rfl; rintro _ _ ⟨b2, rfl, rfl⟩); refine R_nil ?_; refine S_seq rfl ?_; refine S_region rfl rfl ?_; (refine R_eff (E_litS (vs := []) (size := 2) (ds := []) rfl rfl rfl rfl rfl rfl (by simp) rfl (by omega)) ?_ rfl rfl; rintro _ _ ⟨bl, rfl, rfl⟩); refine R_p rfl ?_ rfl rfl; refine R_take (T_load rfl rfl rfl (by first | rfl | assumption)) ?_ rfl rfl; (refine R_eff (E_apple (sz := 2) (news := cellsL rwc L) rfl rfl rfl rfl rfl rfl rfl (by decide) Rem.here (Srd.old h (fun k _ => noOwns k)) (cells_ones L) (by show n * 32 ≤ _; omega) (by unfold maxLen; omega)) ?_ rfl rfl; rintro _ _ ⟨A', c', rfl, rfl⟩); refine R_take (T_build1 rfl (mp_built1 _ _ _)) ?_ rfl rfl; (refine R_eff0 (E_storew (ds := [.slice A' n c']) (cs := [.slice none 0 0]) rfl rfl rfl rfl (sl_one _ _ _) rfl) ?_ rfl; rintro _ _ rfl); refine R_nil ?_)
  refine hB _ _ _ _ _ rfl (.cell rfl rfl rfl inferInstance rfl .nil) fun w' hS => ⟨(A', c'), rfl, trivial, sub_st _ hS⟩
set_option maxRecDepth 100000 in
set_option maxHeartbeats 4000000 in
theorem copiedEdit_any (w : World) (A : Option Addr) (n c : Nat) (L : List Ch) (h : Rd w All 3 A n (cellsL chc L)) (hn : n ≤ 1000) :
    Gives Try.prog 13 [.agg #[.slice A n c]] [] w (X := Option Addr × Nat) (fun x => .agg #[.slice x.1 n x.2]) (fun _ => True) (fun x => [row 42 3 x.1 n x.2 (cellsL chc L)]) := by
  refine gives_C Try.func13 rfl Try.ntmps13 Try.results13 (by simp) (St.enter w) (fun B hB => ?_)
  focus (refine S_seq rfl ?_; refine S_region rfl rfl ?_; (refine R_eff (E_boxa (cs := [.slice A n c]) rfl) ?_ rfl rfl; rintro _ _ ⟨b1, rfl, rfl⟩); (refine R_eff (E_alloca rfl ed_alloc) ?_ rfl rfl; rintro _ _ ⟨b2, rfl, rfl⟩); refine R_nil ?_; refine S_seq rfl ?_; refine S_region rfl rfl ?_; (refine R_eff (E_litS (vs := []) (size := 3) (ds := []) rfl rfl rfl rfl rfl rfl (by simp) rfl (by omega)) ?_ rfl rfl; rintro _ _ ⟨bl, rfl, rfl⟩); refine R_p rfl ?_ rfl rfl; refine R_take (T_load rfl rfl rfl (by first | rfl | assumption)) ?_ rfl rfl; (refine R_eff (E_apple (sz := 3) (news := cellsL chc L) rfl rfl rfl rfl rfl rfl rfl (by decide) Rem.here (Srd.old h (fun k _ => noOwns k)) (ch_ones L) (by show n * 40 ≤ _; omega) (by unfold maxLen; omega)) ?_ rfl rfl; rintro _ _ ⟨A', c', rfl, rfl⟩); refine R_take (T_build1 rfl (ed_built1 _ _ _)) ?_ rfl rfl; (refine R_eff0 (E_storew (ds := [.slice A' n c']) (cs := [.slice none 0 0]) rfl rfl rfl rfl (sl_one _ _ _) rfl) ?_ rfl; rintro _ _ rfl); refine R_nil ?_)
  refine hB _ _ _ _ _ rfl (.cell rfl rfl rfl inferInstance rfl .nil) fun w' hS => ⟨(A', c'), rfl, trivial, sub_st _ hS⟩
end Go.Proofs.Ytebbnbddlnpldaa
