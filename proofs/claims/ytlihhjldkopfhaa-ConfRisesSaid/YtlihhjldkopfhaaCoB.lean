/- Members: the document's Right, Has, Same. -/
import Derived.Test.YtlihhjldkopfhaaCoA
namespace Go.Proofs.Ytlihhjldkopfhaa
open Go.RowKit
open Asn (pt row rb)
set_option linter.unusedVariables false
set_option linter.unusedSimpArgs false
--@use N

theorem getD_at {ms : List Int} {j : Nat} (h : j < ms.length) : ms.getD j 0 = ms[j] := by simp [List.getD, h]
theorem right_iff (ms : List Int) : right ms = true ↔ 0 < ms.length ∧ ∀ j, j < ms.length → memb (ms.getD j 0) = true ∧ (0 < j → ms.getD (j - 1) 0 < ms.getD j 0) := by
  constructor
  · intro h
    obtain ⟨h0, h1, h2⟩ := right_up h
    refine ⟨(right_len h).1, fun j hj => ⟨?_, fun h3 => up_lt h2 (by omega) hj⟩⟩
    rw [getD_at hj]
    simpa [memb] using h1 _ (List.getElem_mem hj)
  · rintro ⟨h0, h1⟩
    have key : ∀ j, j ≤ ms.length → (chk (ms.take j) (decide ((0 : Int) < (ms.length : Int)), 0)).1 = true ∧ (chk (ms.take j) (decide ((0 : Int) < (ms.length : Int)), 0)).2 = (if j = 0 then 0 else ms.getD (j - 1) 0) := by
      intro j
      induction j with
      | zero => intro _; exact ⟨by simp [chk]; omega, by simp [chk]⟩
      | succ j ih =>
        intro hj
        obtain ⟨i1, i2⟩ := ih (by omega)
        obtain ⟨g1, g2⟩ := h1 j (by omega)
        rw [chk_next ms _ j (by omega), i1, i2, g1]
        refine ⟨?_, by simp⟩
        simp only [Bool.true_and, decide_eq_true_eq]
        split
        · rw [memb, decide_eq_true_eq] at g1; omega
        · exact g2 (by omega)
    have := (key ms.length (Nat.le_refl _)).1
    rwa [List.take_length] at this
set_option maxRecDepth 100000 in
set_option maxHeartbeats 4000000 in
theorem rright_any (w : World) (A : Option Addr) (n c : Nat) (ms : List Int) (h : Rd w All 1 A n (ms.map zv)) (hn : n ≤ 1000) :
    Gives Try.prog 12 [cfv A n c] [] w (X := Unit) (fun _ => .bool (right ms)) (fun _ => True) (fun _ => []) := by
  refine gives_S Try.func12 rfl Try.ntmps12 Try.results12 (by simp) (St.enter w) (fun B hB => ?_)
  have hl : ms.length = n := by have := h.1; simpa using this
  have hne : 0 < n → A ≠ none := fun h0 => by obtain ⟨ad, rfl, _⟩ := h.2 h0; simp
  subst hl
  have hld : ∀ j, j < ms.length → (ms.map zv)[j]? = some (zv (ms.getD j 0)) := fun j hj => zv_at hj
  focus (refine S_seq rfl ?_; refine S_region rfl rfl ?_; (refine R_eff (E_boxa rfl) ?_ rfl rfl; rintro _ _ ⟨b, rfl, rfl⟩); refine R_p rfl ?_ rfl rfl; refine R_nil ?_; refine S_seq rfl ?_; refine S_seq rfl ?_; refine S_region rfl rfl ?_; refine R_p rfl ?_ rfl rfl; refine R_take (T_load rfl rfl rfl (by first | rfl | assumption)) ?_ rfl rfl; refine R_p rfl ?_ rfl rfl; refine R_p rfl ?_ rfl rfl; refine R_nil ?_; refine S_block rfl ?_)
  refine S_loop (X := Nat) (fun j => [(1, .pointer (some ⟨b, 0, none⟩)), (6, .slice A ms.length c), (7, .int .i64 (ms.length : Int)), (8, .int .i64 (j : Int))]) (fun _ => [pt b 24 [.slice A ms.length c]]) (fun j => j ≤ ms.length ∧ ∀ i, i < j → memb (ms.getD i 0) = true ∧ (0 < i → ms.getD (i - 1) 0 < ms.getD i 0)) (fun j => ms.length - j) rfl 0 ⟨Nat.zero_le _, fun i hi => absurd hi (by omega)⟩ (Sub.cons rfl (Sub.cons rfl (Sub.cons rfl (Sub.cons rfl Sub.nil)))) (fun _ h => h) ?_
  rintro j ⟨hj, hok⟩ J hJ
  have hbad : j < ms.length → ¬ (memb (ms.getD j 0) = true ∧ (0 < j → ms.getD (j - 1) 0 < ms.getD j 0)) → right ms = false := fun h1 h2 => Bool.eq_false_iff.2 fun h3 => h2 (((right_iff ms).1 h3).2 j h1)
  have hend : j = ms.length → right ms = decide ((0 : Int) < (ms.length : Int)) := fun h1 => by
    subst h1
    by_cases h0 : 0 < ms.length
    · rw [decide_eq_true (by omega), (right_iff ms).2 ⟨h0, hok⟩]
    · rw [decide_eq_false (by omega), Bool.eq_false_iff]
      exact fun h3 => h0 ((right_iff ms).1 h3).1
  have hgo : j < ms.length → (memb (ms.getD j 0) = true ∧ (0 < j → ms.getD (j - 1) 0 < ms.getD j 0)) → ∀ i, i < j + 1 → memb (ms.getD i 0) = true ∧ (0 < i → ms.getD (i - 1) 0 < ms.getD i 0) := fun h1 h2 i hi => by
    rcases Nat.lt_or_ge i j with h3 | h3
    · exact hok i h3
    · obtain rfl : i = j := by omega
      exact h2
  have hld1 := hld j
  have hld2 := hld (j - 1)
  obtain ⟨x, hx⟩ : ∃ x, ms.getD j 0 = x := ⟨_, rfl⟩
  obtain ⟨y, hy⟩ : ∃ y, ms.getD (j - 1) 0 = y := ⟨_, rfl⟩
  rw [hx] at hld1
  rw [hy] at hld2
  rw [hx, hy] at hbad hgo
  simp only [memb, decide_eq_true_eq] at hbad
  clear hok hld
  focus (refine S_seq rfl ?_; refine S_region rfl rfl ?_; refine R_p rfl ?_ rfl rfl; refine R_nil ?_; refine S_seq rfl ?_; (refine S_if rfl rfl (fun hs => ?_) (fun hs => ?_)); refine S_skip rfl ?_; refine S_seq rfl ?_; refine S_block rfl ?_; refine S_seq rfl ?_; refine S_region rfl rfl ?_; refine R_p rfl ?_ rfl rfl; refine R_take (T_ixN rfl rfl rfl rfl rfl rfl (by first | assumption | exact hne (by omega) | exact hne2 (by omega)) (by omega)) ?_ rfl rfl; refine R_take (T_ldr rfl rfl rfl (Srd.old h (fun k _ => noOwns k)) (by omega) (hld1 (by omega))) ?_ rfl rfl; refine R_p rfl ?_ rfl rfl; refine R_p rfl ?_ rfl rfl; refine R_nil ?_; refine S_seq rfl ?_; refine S_region rfl rfl ?_; refine R_p rfl ?_ rfl rfl; refine R_p rfl ?_ rfl rfl; refine R_p rfl ?_ rfl rfl; (refine R_splitd rfl rfl (fun hs => ?_) (fun hs => ?_)); refine R_skip ?_ rfl rfl; refine R_skip ?_ rfl rfl; refine R_p rfl ?_ rfl rfl; refine R_p rfl ?_ rfl rfl; refine R_skip ?_ rfl rfl; refine R_skip ?_ rfl rfl; refine R_skip ?_ rfl rfl; refine R_skip ?_ rfl rfl; refine R_skip ?_ rfl rfl; refine R_skip ?_ rfl rfl; refine R_skip ?_ rfl rfl; refine R_skip ?_ rfl rfl; refine R_skip ?_ rfl rfl; refine R_skip ?_ rfl rfl; refine R_skip ?_ rfl rfl; refine R_skip ?_ rfl rfl; refine R_p rfl ?_ rfl rfl; refine R_nil ?_; refine S_true rfl rfl ?_; refine S_seq rfl ?_; refine S_region rfl rfl ?_; refine R_p rfl ?_ rfl rfl; refine R_nil ?_; rotate_left; refine R_p rfl ?_ rfl rfl; refine R_p rfl ?_ rfl rfl; refine R_p rfl ?_ rfl rfl; refine R_p rfl ?_ rfl rfl; (refine R_splitd rfl rfl (fun hs => ?_) (fun hs => ?_)); refine R_skip ?_ rfl rfl; refine R_skip ?_ rfl rfl; refine R_skip ?_ rfl rfl; refine R_skip ?_ rfl rfl; refine R_skip ?_ rfl rfl; refine R_skip ?_ rfl rfl; refine R_skip ?_ rfl rfl; refine R_skip ?_ rfl rfl; refine R_skip ?_ rfl rfl; refine R_skip ?_ rfl rfl; refine R_skip ?_ rfl rfl; refine R_skip ?_ rfl rfl; refine R_p rfl ?_ rfl rfl; refine R_nil ?_; refine S_true rfl rfl ?_; refine S_seq rfl ?_; refine S_region rfl rfl ?_; refine R_p rfl ?_ rfl rfl; refine R_nil ?_; rotate_left; refine R_p rfl ?_ rfl rfl; refine R_p rfl ?_ rfl rfl; refine R_p rfl ?_ rfl rfl; (refine R_splitd rfl rfl (fun hs => ?_) (fun hs => ?_)); refine R_p rfl ?_ rfl rfl; refine R_take (T_load rfl rfl rfl (by first | rfl | assumption)) ?_ rfl rfl; refine R_p rfl ?_ rfl rfl; refine R_take (T_subN rfl rfl (by omega) (by unfold fits; omega)) ?_ rfl rfl; refine R_take (T_ixN rfl rfl rfl rfl rfl rfl (by first | assumption | exact hne (by omega) | exact hne2 (by omega)) (by omega)) ?_ rfl rfl; refine R_take (T_ldr rfl rfl rfl (Srd.old h (fun k _ => noOwns k)) (by omega) (hld2 (by omega))) ?_ rfl rfl; refine R_p rfl ?_ rfl rfl; refine R_p rfl ?_ rfl rfl; refine R_p rfl ?_ rfl rfl; refine R_p rfl ?_ rfl rfl; refine R_nil ?_; (refine S_if rfl rfl (fun hs => ?_) (fun hs => ?_)); refine S_seq rfl ?_; refine S_region rfl rfl ?_; refine R_p rfl ?_ rfl rfl; refine R_nil ?_; rotate_left; refine S_skip rfl ?_; refine RS_blk ?_; refine S_region rfl rfl ?_; refine R_take (T_addN rfl rfl (by unfold fits; omega)) ?_ rfl rfl; refine R_p rfl ?_ rfl rfl; refine R_nil ?_; rotate_left; refine R_skip ?_ rfl rfl; refine R_skip ?_ rfl rfl; refine R_skip ?_ rfl rfl; refine R_skip ?_ rfl rfl; refine R_skip ?_ rfl rfl; refine R_skip ?_ rfl rfl; refine R_skip ?_ rfl rfl; refine R_skip ?_ rfl rfl; refine R_p rfl ?_ rfl rfl; refine R_p rfl ?_ rfl rfl; refine R_nil ?_; refine S_false rfl rfl ?_; refine S_skip rfl ?_; refine RS_blk ?_; refine S_region rfl rfl ?_; refine R_take (T_addN rfl rfl (by unfold fits; omega)) ?_ rfl rfl; refine R_p rfl ?_ rfl rfl; refine R_nil ?_; rotate_left; refine S_exit rfl rfl ?_; refine S_seq rfl ?_; refine S_region rfl rfl ?_; refine R_p rfl ?_ rfl rfl; refine R_take (T_load rfl rfl rfl (by first | rfl | assumption)) ?_ rfl rfl; refine R_p rfl ?_ rfl rfl; refine R_p rfl ?_ rfl rfl; refine R_p rfl ?_ rfl rfl; refine R_nil ?_; rotate_left)
  all_goals (try (exfalso; omega))
  all_goals first
  | (refine hJ (j + 1) _ _ ⟨by omega, hgo (by omega) ⟨decide_eq_true (by omega), fun _ => by omega⟩⟩ (Sub.cons rfl (Sub.cons rfl (Sub.cons rfl (Sub.cons rfl Sub.nil)))) (fun _ h => h) (by omega); done)
  | (refine hB _ _ _ _ _ rfl rfl fun w' hS => ⟨(), ?_, trivial, hS.sublist (List.nil_sublist _)⟩; rw [hbad (by omega) (fun hbb => by obtain ⟨g1, g2⟩ := hbb; first | omega | (have g3 := g2 (by omega); omega))]; rfl)
  | (refine hB _ _ _ _ _ rfl rfl fun w' hS => ⟨(), ?_, trivial, hS.sublist (List.nil_sublist _)⟩; rw [hend (by omega)]; rfl)
set_option maxRecDepth 100000 in
set_option maxHeartbeats 4000000 in
theorem rhas_any (w : World) (A : Option Addr) (n c : Nat) (ms : List Int) (m : Int) (h : Rd w All 1 A n (ms.map zv)) (hn : n ≤ 1000) :
    Gives Try.prog 17 [cfv A n c, zv m] [] w (X := Unit) (fun _ => .bool (decide (m ∈ ms))) (fun _ => True) (fun _ => []) := by
  refine gives_S Try.func17 rfl Try.ntmps17 Try.results17 (by simp) (St.enter w) (fun B hB => ?_)
  have hl : ms.length = n := by have := h.1; simpa using this
  have hne : 0 < n → A ≠ none := fun h0 => by obtain ⟨ad, rfl, _⟩ := h.2 h0; simp
  subst hl
  have hld : ∀ j, j < ms.length → (ms.map zv)[j]? = some (zv (ms.getD j 0)) := fun j hj => zv_at hj
  focus (refine S_seq rfl ?_; refine S_region rfl rfl ?_; (refine R_eff (E_boxa rfl) ?_ rfl rfl; rintro _ _ ⟨b, rfl, rfl⟩); refine R_p rfl ?_ rfl rfl; refine R_nil ?_; refine S_seq rfl ?_; refine S_seq rfl ?_; refine S_region rfl rfl ?_; refine R_p rfl ?_ rfl rfl; refine R_take (T_load rfl rfl rfl (by first | rfl | assumption)) ?_ rfl rfl; refine R_p rfl ?_ rfl rfl; refine R_p rfl ?_ rfl rfl; refine R_nil ?_; refine S_block rfl ?_)
  refine S_loop (X := Nat) (fun j => [(1, zv m), (8, .slice A ms.length c), (9, .int .i64 (ms.length : Int)), (10, .int .i64 (j : Int))]) (fun _ => []) (fun j => j ≤ ms.length ∧ ¬ m ∈ ms.take j) (fun j => ms.length - j) rfl 0 ⟨Nat.zero_le _, by simp⟩ (Sub.cons rfl (Sub.cons rfl (Sub.cons rfl (Sub.cons rfl Sub.nil)))) (fun _ hS => hS.sublist (List.nil_sublist _)) ?_
  rintro j ⟨hj, htk⟩ J hJ
  focus (refine S_seq rfl ?_; refine S_region rfl rfl ?_; refine R_p rfl ?_ rfl rfl; refine R_nil ?_; refine S_seq rfl ?_; (refine S_if rfl rfl (fun hs => ?_) (fun hs => ?_)); refine S_skip rfl ?_; refine S_seq rfl ?_; refine S_block rfl ?_; refine S_seq rfl ?_; refine S_region rfl rfl ?_; refine R_take (T_ixN rfl rfl rfl rfl rfl rfl (by first | assumption | exact hne (by omega) | exact hne2 (by omega)) (by omega)) ?_ rfl rfl; refine R_take (T_ldr rfl rfl rfl (Srd.old h (fun k _ => noOwns k)) (by omega) (hld j (by omega))) ?_ rfl rfl; refine R_p rfl ?_ rfl rfl; refine R_nil ?_; refine S_seq rfl ?_; refine S_region rfl rfl ?_; refine R_p rfl ?_ rfl rfl; refine R_p rfl ?_ rfl rfl; refine R_p rfl ?_ rfl rfl; refine R_nil ?_; (refine S_if rfl rfl (fun hs => ?_) (fun hs => ?_)); refine S_seq rfl ?_; refine S_region rfl rfl ?_; refine R_p rfl ?_ rfl rfl; refine R_nil ?_; rotate_left; refine S_skip rfl ?_; refine RS_blk ?_; refine S_region rfl rfl ?_; refine R_take (T_addN rfl rfl (by unfold fits; omega)) ?_ rfl rfl; refine R_p rfl ?_ rfl rfl; refine R_nil ?_; rotate_left; refine S_exit rfl rfl ?_; refine S_seq rfl ?_; refine S_region rfl rfl ?_; refine R_p rfl ?_ rfl rfl; refine R_nil ?_; rotate_left)
  all_goals (try (exfalso; omega))
  · rename_i hlt
    have hlt' : j < ms.length := by omega
    refine hB _ _ _ _ _ rfl rfl fun w' hS => ⟨(), ?_, trivial, hS.sublist (List.nil_sublist _)⟩
    have heq' : ms.getD j 0 = m := hs
    rw [decide_eq_true]
    · rfl
    · rw [← heq', getD_at hlt']
      exact List.getElem_mem _
  · rename_i hlt
    have hlt' : j < ms.length := by omega
    refine hJ (j + 1) _ _ ⟨by omega, ?_⟩ (Sub.cons rfl (Sub.cons rfl (Sub.cons rfl (Sub.cons rfl Sub.nil)))) (fun _ h => h) (by omega)
    rw [List.take_succ_eq_append_getElem hlt', List.mem_append, not_or]
    refine ⟨htk, ?_⟩
    rw [← getD_at hlt']
    intro hmm
    exact hs (List.mem_singleton.1 hmm).symm
  · have hjn : j = ms.length := by omega
    subst hjn
    rw [List.take_length] at htk
    refine hB _ _ _ _ _ rfl rfl fun w' hS => ⟨(), ?_, trivial, hS.sublist (List.nil_sublist _)⟩
    rw [decide_eq_false htk]
    rfl
set_option maxRecDepth 100000 in
set_option maxHeartbeats 4000000 in
theorem rsame_any (w : World) (A A2 : Option Addr) (n c n2 c2 : Nat) (ms ks : List Int) (h : Rd w All 1 A n (ms.map zv)) (h2 : Rd w All 1 A2 n2 (ks.map zv)) (hn : n ≤ 1000) (hn2 : n2 ≤ 1000) :
    Gives Try.prog 18 [cfv A n c, cfv A2 n2 c2] [] w (X := Unit) (fun _ => .bool (decide (ms = ks))) (fun _ => True) (fun _ => []) := by
  refine gives_S Try.func18 rfl Try.ntmps18 Try.results18 (by simp) (St.enter w) (fun B hB => ?_)
  have hl : ms.length = n := by have := h.1; simpa using this
  have hl2 : ks.length = n2 := by have := h2.1; simpa using this
  have hne : 0 < n → A ≠ none := fun h0 => by obtain ⟨ad, rfl, _⟩ := h.2 h0; simp
  have hne2 : 0 < n2 → A2 ≠ none := fun h0 => by obtain ⟨ad, rfl, _⟩ := h2.2 h0; simp
  subst hl hl2
  have hld : ∀ j, j < ms.length → (ms.map zv)[j]? = some (zv (ms.getD j 0)) := fun j hj => zv_at hj
  have hld2 : ∀ j, j < ks.length → (ks.map zv)[j]? = some (zv (ks.getD j 0)) := fun j hj => zv_at hj
  by_cases hlen : ms.length = ks.length
  · skip
    focus (refine S_seq rfl ?_; refine S_region rfl rfl ?_; (refine R_eff (E_boxa rfl) ?_ rfl rfl; rintro _ _ ⟨b, rfl, rfl⟩); (refine R_eff (E_boxa rfl) ?_ rfl rfl; rintro _ _ ⟨b, rfl, rfl⟩); refine R_p rfl ?_ rfl rfl; refine R_nil ?_; refine S_seq rfl ?_; refine S_seq rfl ?_; refine S_region rfl rfl ?_; refine R_p rfl ?_ rfl rfl; refine R_take (T_load rfl rfl rfl (by first | rfl | assumption)) ?_ rfl rfl; refine R_p rfl ?_ rfl rfl; refine R_p rfl ?_ rfl rfl; refine R_take (T_load rfl rfl rfl (by first | rfl | assumption)) ?_ rfl rfl; refine R_p rfl ?_ rfl rfl; refine R_take (T_decF rfl (by omega)) ?_ rfl rfl; refine R_nil ?_; refine S_false rfl rfl ?_; refine S_skip rfl ?_; refine S_seq rfl ?_; refine S_seq rfl ?_; refine S_region rfl rfl ?_; refine R_p rfl ?_ rfl rfl; refine R_take (T_load rfl rfl rfl (by first | rfl | assumption)) ?_ rfl rfl; refine R_p rfl ?_ rfl rfl; refine R_p rfl ?_ rfl rfl; refine R_nil ?_; refine S_block rfl ?_)
    rename_i b1
    refine S_loop (X := Nat) (fun j => [(2, .pointer (some ⟨b1, 0, none⟩)), (3, .pointer (some ⟨b, 0, none⟩)), (15, .int .i64 (ms.length : Int)), (16, .int .i64 (j : Int))]) (fun _ => [pt b 24 [.slice A2 ks.length c2], pt b1 24 [.slice A ms.length c]]) (fun j => j ≤ ms.length ∧ ms.take j = ks.take j) (fun j => ms.length - j) rfl 0 ⟨Nat.zero_le _, rfl⟩ (Sub.cons rfl (Sub.cons rfl (Sub.cons rfl (Sub.cons rfl Sub.nil)))) (fun _ h => h) ?_
    rintro j ⟨hj, htk⟩ J hJ
    rcases Nat.lt_or_ge j ms.length with hjl | hjl
    · focus (refine S_seq rfl ?_; refine S_region rfl rfl ?_; refine R_p rfl ?_ rfl rfl; refine R_nil ?_; refine S_seq rfl ?_; (refine S_if rfl rfl (fun hs => ?_) (fun hs => ?_)); refine S_skip rfl ?_; refine S_seq rfl ?_; refine S_block rfl ?_; refine S_seq rfl ?_; refine S_region rfl rfl ?_; refine R_p rfl ?_ rfl rfl; refine R_p rfl ?_ rfl rfl; refine R_nil ?_; refine S_seq rfl ?_; (refine S_draw _ (fun _ h => h) (by kernel_rfl) rfl (by kernel_rfl) (rfl : _ = 11) ?_; (refine D_take 0 rfl (pev_ok rfl) ?_ rfl rfl (by kernel_rfl) (by kernel_rfl)); (refine D_take 1 rfl (T_load rfl rfl rfl (by first | rfl | assumption)) ?_ rfl rfl (by kernel_rfl) (by kernel_rfl)); (refine D_take 2 rfl (pev_ok rfl) ?_ rfl rfl (by kernel_rfl) (by kernel_rfl)); (refine D_take 3 rfl (T_ixN rfl rfl rfl rfl rfl rfl (by first | assumption | exact hne (by omega) | exact hne2 (by omega)) (by omega)) ?_ rfl rfl (by kernel_rfl) (by kernel_rfl)); (refine D_take 4 rfl (T_ldr rfl rfl rfl (Srd.old h (fun k _ => noOwns k)) (by omega) (hld j (by omega))) ?_ rfl rfl (by kernel_rfl) (by kernel_rfl)); (refine D_take 5 rfl (pev_ok rfl) ?_ rfl rfl (by kernel_rfl) (by kernel_rfl)); (refine D_take 6 rfl (T_load rfl rfl rfl (by first | rfl | assumption)) ?_ rfl rfl (by kernel_rfl) (by kernel_rfl)); (refine D_take 7 rfl (pev_ok rfl) ?_ rfl rfl (by kernel_rfl) (by kernel_rfl)); (refine D_take 8 rfl (T_ixN rfl rfl rfl rfl rfl rfl (by first | assumption | exact hne (by omega) | exact hne2 (by omega)) (by omega)) ?_ rfl rfl (by kernel_rfl) (by kernel_rfl)); (refine D_take 9 rfl (T_ldr rfl rfl rfl (Srd.old h2 (fun k _ => noOwns k)) (by omega) (hld2 j (by omega))) ?_ rfl rfl (by kernel_rfl) (by kernel_rfl)); (refine D_take 10 rfl (pev_ok rfl) ?_ rfl rfl (by kernel_rfl) (by kernel_rfl)); refine D_done ?_ (by kernel_rfl)); (refine S_if rfl rfl (fun hs => ?_) (fun hs => ?_)); refine S_seq rfl ?_; refine S_region rfl rfl ?_; refine R_p rfl ?_ rfl rfl; refine R_nil ?_; rotate_left; refine S_skip rfl ?_; refine RS_blk ?_; refine S_region rfl rfl ?_; refine R_take (T_addN rfl rfl (by unfold fits; omega)) ?_ rfl rfl; refine R_p rfl ?_ rfl rfl; refine R_nil ?_; rotate_left; refine S_exit rfl rfl ?_; refine S_seq rfl ?_; refine S_region rfl rfl ?_; refine R_p rfl ?_ rfl rfl; refine R_nil ?_; rotate_left)
      all_goals (try (exfalso; omega))
      · refine hB _ _ _ _ _ rfl rfl fun w' hS => ⟨(), ?_, trivial, hS.sublist (List.nil_sublist _)⟩
        rw [decide_eq_false]
        · rfl
        · rintro rfl; simp_all
      · refine hJ (j + 1) _ _ ⟨by omega, (take2_succ hlen hjl).2 ⟨htk, by simp_all⟩⟩ (Sub.cons rfl (Sub.cons rfl (Sub.cons rfl (Sub.cons rfl Sub.nil)))) (fun _ h => h) (by omega)
    · skip
      focus (refine S_seq rfl ?_; refine S_region rfl rfl ?_; refine R_take (T_decF rfl (by omega)) ?_ rfl rfl; refine R_nil ?_; refine S_seq rfl ?_; refine S_false rfl rfl ?_; refine S_exit rfl rfl ?_; refine S_seq rfl ?_; refine S_region rfl rfl ?_; refine R_p rfl ?_ rfl rfl; refine R_nil ?_)
      all_goals (try (exfalso; omega))
      have hjn : j = ms.length := by omega
      subst hjn
      refine hB _ _ _ _ _ rfl rfl fun w' hS => ⟨(), ?_, trivial, hS.sublist (List.nil_sublist _)⟩
      rw [decide_eq_true]
      · rfl
      · rw [List.take_length, hlen, List.take_length] at htk
        exact htk
  · skip
    focus (refine S_seq rfl ?_; refine S_region rfl rfl ?_; (refine R_eff (E_boxa rfl) ?_ rfl rfl; rintro _ _ ⟨b, rfl, rfl⟩); (refine R_eff (E_boxa rfl) ?_ rfl rfl; rintro _ _ ⟨b, rfl, rfl⟩); refine R_p rfl ?_ rfl rfl; refine R_nil ?_; refine S_seq rfl ?_; refine S_seq rfl ?_; refine S_region rfl rfl ?_; refine R_p rfl ?_ rfl rfl; refine R_take (T_load rfl rfl rfl (by first | rfl | assumption)) ?_ rfl rfl; refine R_p rfl ?_ rfl rfl; refine R_p rfl ?_ rfl rfl; refine R_take (T_load rfl rfl rfl (by first | rfl | assumption)) ?_ rfl rfl; refine R_p rfl ?_ rfl rfl; refine R_take (T_decT rfl (by omega)) ?_ rfl rfl; refine R_nil ?_; refine S_true rfl rfl ?_; refine S_seq rfl ?_; refine S_region rfl rfl ?_; refine R_p rfl ?_ rfl rfl; refine R_nil ?_)
    all_goals (try (exfalso; omega))
    refine hB _ _ _ _ _ rfl rfl fun w' hS => ⟨(), ?_, trivial, hS.sublist (List.nil_sublist _)⟩
    rw [decide_eq_false]
    · rfl
    · rintro rfl; exact hlen rfl
end Go.Proofs.Ytlihhjldkopfhaa
