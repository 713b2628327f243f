/- Members: slices.Equal, Index, Contains; how many members something is so of. -/
import Derived.Test.YtlihhjldkopfhaaCo5
namespace Go.Proofs.Ytlihhjldkopfhaa
open Go.RowKit
open Asn (pt row rb)
set_option linter.unusedVariables false
set_option linter.unusedSimpArgs false
--@use N

theorem zv_lt {l : List Int} {j : Nat} (h : j < l.length) : (l.map zv)[j]? = some (zv (l.getD j 0)) := zv_at h
theorem take2_succ {a b : List Int} (hl : a.length = b.length) {j : Nat} (hj : j < a.length) : a.take (j + 1) = b.take (j + 1) ↔ a.take j = b.take j ∧ a.getD j 0 = b.getD j 0 := by
  rw [List.take_succ_eq_append_getElem hj, List.take_succ_eq_append_getElem (by omega)]
  have e1 : a.getD j 0 = a[j] := by simp [List.getD, hj]
  have e2 : b.getD j 0 = b[j]'(by omega) := by simp [List.getD, show j < b.length by omega]
  rw [e1, e2]
  constructor
  · intro h
    have := List.append_inj h (by simp [hl])
    exact ⟨this.1, by simpa using this.2⟩
  · rintro ⟨h1, h2⟩
    rw [h1, h2]
set_option maxRecDepth 100000 in
set_option maxHeartbeats 4000000 in
theorem eql_any (w : World) (A A2 : Option Addr) (n c n2 c2 : Nat) (ms ks : List Int) (h : Rd w All 1 A n (ms.map zv)) (h2 : Rd w All 1 A2 n2 (ks.map zv)) (hn : n ≤ 1000) (hn2 : n2 ≤ 1000) :
    Gives Try.prog 44 [.slice A n c, .slice A2 n2 c2] [] w (X := Unit) (fun _ => .bool (decide (ms = ks))) (fun _ => True) (fun _ => []) := by
  refine gives_S Try.func44 rfl Try.ntmps44 Try.results44 (by simp) (St.enter w) (fun B hB => ?_)
  have hl : ms.length = n := by have := h.1; simpa using this
  have hl2 : ks.length = n2 := by have := h2.1; simpa using this
  have hne : 0 < n → A ≠ none := fun h0 => by obtain ⟨ad, rfl, _⟩ := h.2 h0; simp
  have hne2 : 0 < n2 → A2 ≠ none := fun h0 => by obtain ⟨ad, rfl, _⟩ := h2.2 h0; simp
  subst hl hl2
  have hld : ∀ j, j < ms.length → (ms.map zv)[j]? = some (zv (ms.getD j 0)) := fun j hj => zv_at hj
  have hld2 : ∀ j, j < ks.length → (ks.map zv)[j]? = some (zv (ks.getD j 0)) := fun j hj => zv_at hj
  by_cases hlen : ms.length = ks.length
  · skip
    focus (refine S_seq rfl ?_; refine S_region rfl rfl ?_; refine R_p rfl ?_ rfl rfl; refine R_nil ?_; refine S_seq rfl ?_; refine S_seq rfl ?_; refine S_region rfl rfl ?_; refine R_p rfl ?_ rfl rfl; refine R_p rfl ?_ rfl rfl; refine R_p rfl ?_ rfl rfl; refine R_p rfl ?_ rfl rfl; refine R_take (T_decF rfl (by omega)) ?_ rfl rfl; refine R_nil ?_; refine S_false rfl rfl ?_; refine S_skip rfl ?_; refine S_seq rfl ?_; refine S_seq rfl ?_; refine S_region rfl rfl ?_; refine R_p rfl ?_ rfl rfl; refine R_p rfl ?_ rfl rfl; refine R_p rfl ?_ rfl rfl; refine R_nil ?_; refine S_block rfl ?_)
    refine S_loop (X := Nat) (fun j => [(0, .slice A ms.length c), (1, .slice A2 ks.length c2), (12, .int .i64 (ms.length : Int)), (13, .int .i64 (j : Int))]) (fun _ => _) (fun j => j ≤ ms.length ∧ ms.take j = ks.take j) (fun j => ms.length - j) rfl 0 ⟨Nat.zero_le _, rfl⟩ (Sub.cons rfl (Sub.cons rfl (Sub.cons rfl (Sub.cons rfl Sub.nil)))) (fun _ h => h) ?_
    rintro j ⟨hj, htk⟩ J hJ
    rcases Nat.lt_or_ge j ms.length with hjl | hjl
    · focus (refine S_seq rfl ?_; refine S_region rfl rfl ?_; refine R_p rfl ?_ rfl rfl; refine R_nil ?_; refine S_seq rfl ?_; (refine S_if rfl rfl (fun hs => ?_) (fun hs => ?_)); refine S_skip rfl ?_; refine S_seq rfl ?_; refine S_block rfl ?_; refine S_seq rfl ?_; refine S_region rfl rfl ?_; refine R_p rfl ?_ rfl rfl; refine R_p rfl ?_ rfl rfl; refine R_nil ?_; refine S_seq rfl ?_; (refine S_draw _ (fun _ h => h) (by kernel_rfl) rfl (by kernel_rfl) (rfl : _ = 9) ?_; (refine D_take 0 rfl (pev_ok rfl) ?_ rfl rfl (by kernel_rfl) (by kernel_rfl)); (refine D_take 1 rfl (pev_ok rfl) ?_ rfl rfl (by kernel_rfl) (by kernel_rfl)); (refine D_take 2 rfl (T_ixN rfl rfl rfl rfl rfl rfl (by first | assumption | exact hne (by omega) | exact hne2 (by omega)) (by omega)) ?_ rfl rfl (by kernel_rfl) (by kernel_rfl)); (refine D_take 3 rfl (T_ldr rfl rfl rfl (Srd.old h (fun k _ => noOwns k)) (by omega) (hld j (by omega))) ?_ rfl rfl (by kernel_rfl) (by kernel_rfl)); (refine D_take 4 rfl (pev_ok rfl) ?_ rfl rfl (by kernel_rfl) (by kernel_rfl)); (refine D_take 5 rfl (pev_ok rfl) ?_ rfl rfl (by kernel_rfl) (by kernel_rfl)); (refine D_take 6 rfl (T_ixN rfl rfl rfl rfl rfl rfl (by first | assumption | exact hne (by omega) | exact hne2 (by omega)) (by omega)) ?_ rfl rfl (by kernel_rfl) (by kernel_rfl)); (refine D_take 7 rfl (T_ldr rfl rfl rfl (Srd.old h2 (fun k _ => noOwns k)) (by omega) (hld2 j (by omega))) ?_ rfl rfl (by kernel_rfl) (by kernel_rfl)); (refine D_take 8 rfl (pev_ok rfl) ?_ rfl rfl (by kernel_rfl) (by kernel_rfl)); refine D_done ?_ (by kernel_rfl)); (refine S_if rfl rfl (fun hs => ?_) (fun hs => ?_)); refine S_seq rfl ?_; refine S_region rfl rfl ?_; refine R_p rfl ?_ rfl rfl; refine R_nil ?_; rotate_left; refine S_skip rfl ?_; refine RS_blk ?_; refine S_region rfl rfl ?_; refine R_take (T_addN rfl rfl (by unfold fits; omega)) ?_ rfl rfl; refine R_p rfl ?_ rfl rfl; refine R_nil ?_; rotate_left; refine S_exit rfl rfl ?_; refine S_seq rfl ?_; refine S_region rfl rfl ?_; refine R_p rfl ?_ rfl rfl; refine R_nil ?_; rotate_left)
      all_goals (try (exfalso; omega))
      · refine hB _ _ _ _ _ rfl rfl fun w' hS => ⟨(), ?_, trivial, hS.sublist (List.nil_sublist _)⟩
        rw [decide_eq_false]
        · rfl
        · rintro rfl; simp_all
      · refine hJ (j + 1) _ _ ⟨by omega, (take2_succ hlen hjl).2 ⟨htk, by simp_all⟩⟩ (Sub.cons rfl (Sub.cons rfl (Sub.cons rfl (Sub.cons rfl Sub.nil)))) (fun _ h => h) (by omega)
    · skip
      focus (refine S_seq rfl ?_; refine S_region rfl rfl ?_; refine R_take (T_decF rfl (by omega)) ?_ rfl rfl; refine R_nil ?_; refine S_seq rfl ?_; refine S_false rfl rfl ?_; refine S_exit rfl rfl ?_; refine S_seq rfl ?_; refine S_region rfl rfl ?_; refine R_p rfl ?_ rfl rfl; refine R_nil ?_)
      all_goals (try (exfalso; omega))
      have hjn : j = ms.length := by omega
      subst hjn
      refine hB _ _ _ _ _ rfl rfl fun w' hS => ⟨(), ?_, trivial, hS.sublist (List.nil_sublist _)⟩
      rw [decide_eq_true]
      · rfl
      · rw [List.take_length, hlen, List.take_length] at htk
        exact htk
  · skip
    focus (refine S_seq rfl ?_; refine S_region rfl rfl ?_; refine R_p rfl ?_ rfl rfl; refine R_nil ?_; refine S_seq rfl ?_; refine S_seq rfl ?_; refine S_region rfl rfl ?_; refine R_p rfl ?_ rfl rfl; refine R_p rfl ?_ rfl rfl; refine R_p rfl ?_ rfl rfl; refine R_p rfl ?_ rfl rfl; refine R_take (T_decT rfl (by omega)) ?_ rfl rfl; refine R_nil ?_; refine S_true rfl rfl ?_; refine S_seq rfl ?_; refine S_region rfl rfl ?_; refine R_p rfl ?_ rfl rfl; refine R_nil ?_)
    all_goals (try (exfalso; omega))
    refine hB _ _ _ _ _ rfl rfl fun w' hS => ⟨(), ?_, trivial, hS.sublist (List.nil_sublist _)⟩
    rw [decide_eq_false]
    · rfl
    · rintro rfl; exact hlen rfl
set_option maxRecDepth 100000 in
set_option maxHeartbeats 4000000 in
theorem index_any (w : World) (A : Option Addr) (n c : Nat) (ms : List Int) (m : Int) (h : Rd w All 1 A n (ms.map zv)) (hn : n ≤ 1000) :
    Gives Try.prog 52 [.slice A n c, zv m] [] w (X := Int) (fun x => .int .i64 x) (fun x => 0 ≤ x ↔ m ∈ ms) (fun _ => []) := by
  refine gives_S Try.func52 rfl Try.ntmps52 Try.results52 (by simp) (St.enter w) (fun B hB => ?_)
  have hl : ms.length = n := by have := h.1; simpa using this
  have hne : 0 < n → A ≠ none := fun h0 => by obtain ⟨ad, rfl, _⟩ := h.2 h0; simp
  subst hl
  have hld : ∀ j, j < ms.length → (ms.map zv)[j]? = some (zv (ms.getD j 0)) := fun j hj => zv_at hj
  focus (refine S_seq rfl ?_; refine S_region rfl rfl ?_; refine R_p rfl ?_ rfl rfl; refine R_nil ?_; refine S_seq rfl ?_; refine S_seq rfl ?_; refine S_region rfl rfl ?_; refine R_p rfl ?_ rfl rfl; refine R_p rfl ?_ rfl rfl; refine R_p rfl ?_ rfl rfl; refine R_nil ?_; refine S_block rfl ?_)
  refine S_loop (X := Nat) (fun j => [(0, .slice A ms.length c), (1, zv m), (7, .int .i64 (ms.length : Int)), (8, .int .i64 (j : Int))]) (fun _ => _) (fun j => j ≤ ms.length ∧ ¬ m ∈ ms.take j) (fun j => ms.length - j) rfl 0 ⟨Nat.zero_le _, by simp⟩ (Sub.cons rfl (Sub.cons rfl (Sub.cons rfl (Sub.cons rfl Sub.nil)))) (fun _ h => h) ?_
  rintro j ⟨hj, htk⟩ J hJ
  have hgm : ∀ hj : j < ms.length, ms.getD j 0 = ms[j] := fun hj => by simp [List.getD, hj]
  focus (refine S_seq rfl ?_; refine S_region rfl rfl ?_; refine R_p rfl ?_ rfl rfl; refine R_nil ?_; refine S_seq rfl ?_; (refine S_if rfl rfl (fun hs => ?_) (fun hs => ?_)); refine S_skip rfl ?_; refine S_seq rfl ?_; refine S_block rfl ?_; refine S_seq rfl ?_; refine S_region rfl rfl ?_; refine R_p rfl ?_ rfl rfl; refine R_p rfl ?_ rfl rfl; refine R_nil ?_; refine S_seq rfl ?_; refine S_region rfl rfl ?_; refine R_p rfl ?_ rfl rfl; refine R_p rfl ?_ rfl rfl; refine R_p rfl ?_ rfl rfl; refine R_take (T_ixN rfl rfl rfl rfl rfl rfl (by first | assumption | exact hne (by omega) | exact hne2 (by omega)) (by omega)) ?_ rfl rfl; refine R_take (T_ldr rfl rfl rfl (Srd.old h (fun k _ => noOwns k)) (by omega) (hld j (by omega))) ?_ rfl rfl; refine R_p rfl ?_ rfl rfl; refine R_nil ?_; (refine S_if rfl rfl (fun hs => ?_) (fun hs => ?_)); refine S_seq rfl ?_; refine S_region rfl rfl ?_; refine R_p rfl ?_ rfl rfl; refine R_p rfl ?_ rfl rfl; refine R_nil ?_; rotate_left; refine S_skip rfl ?_; refine RS_blk ?_; refine S_region rfl rfl ?_; refine R_take (T_addN rfl rfl (by unfold fits; omega)) ?_ rfl rfl; refine R_p rfl ?_ rfl rfl; refine R_nil ?_; rotate_left; refine S_exit rfl rfl ?_; refine S_seq rfl ?_; refine S_region rfl rfl ?_; refine R_p rfl ?_ rfl rfl; refine R_nil ?_; rotate_left)
  all_goals (try (exfalso; omega))
  · rename_i hlt
    refine hB _ _ _ _ _ rfl rfl fun w' hS => ⟨(j : Int), rfl, ⟨fun _ => ?_, fun _ => by omega⟩, hS.sublist (List.nil_sublist _)⟩
    have hlt' : j < ms.length := by omega
    have heq' : m = ms.getD j 0 := hs
    rw [heq', hgm hlt']
    exact List.getElem_mem _
  · rename_i hlt
    have hlt' : j < ms.length := by omega
    refine hJ (j + 1) _ _ ⟨by omega, ?_⟩ (Sub.cons rfl (Sub.cons rfl (Sub.cons rfl (Sub.cons rfl Sub.nil)))) (fun _ h => h) (by omega)
    rw [List.take_succ_eq_append_getElem hlt', List.mem_append, not_or]
    refine ⟨htk, ?_⟩
    rw [← hgm hlt']
    simpa [hgm hlt'] using hs
  · have hjn : j = ms.length := by omega
    subst hjn
    rw [List.take_length] at htk
    refine hB _ _ _ _ _ rfl rfl fun w' hS => ⟨-1, rfl, ⟨fun h => absurd h (by omega), fun h => absurd h htk⟩, hS.sublist (List.nil_sublist _)⟩
set_option maxRecDepth 100000 in
set_option maxHeartbeats 4000000 in
theorem contains_any (w : World) (A : Option Addr) (n c : Nat) (ms : List Int) (m : Int) (h : Rd w All 1 A n (ms.map zv)) (hn : n ≤ 1000) :
    Gives Try.prog 46 [.slice A n c, zv m] [] w (X := Unit) (fun _ => .bool (decide (m ∈ ms))) (fun _ => True) (fun _ => []) := by
  refine gives_S Try.func46 rfl Try.ntmps46 Try.results46 (by simp) (St.enter w) (fun B hB => ?_)
  focus (refine S_seq rfl ?_; refine S_region rfl rfl ?_; refine R_p rfl ?_ rfl rfl; refine R_nil ?_; refine S_seq rfl ?_; refine S_region rfl rfl ?_; refine R_p rfl ?_ rfl rfl; refine R_p rfl ?_ rfl rfl; (refine R_eff (E_gv0 (f := 52) ⟨_, Try.func52, rfl, by kernel_rfl⟩ rfl (fun w hS => index_any w A _ c ms m ((Srd.old h (fun k _ => noOwns k)).rd w hS) hn) (fun _ => rfl)) ?_ rfl rfl; rintro _ _ ⟨x, rfl, hx, rfl⟩); refine R_p rfl ?_ rfl rfl; refine R_p rfl ?_ rfl rfl; refine R_nil ?_)
  refine hB _ _ _ _ _ rfl rfl fun w' hS => ⟨(), ?_, trivial, hS.sublist (List.nil_sublist _)⟩
  rw [decide_eq_decide.2 hx.symm]
  rfl
theorem ogets_cap (T : Slots) (x : Operand) (v : Value) (hx : oget T x = some v) : ∀ cap : List Value, ogets T (#[x] ++ (cap.map Operand.const).toArray).toList = some (v :: cap) := fun cap => by
  have h : ogets T (cap.map Operand.const) = some cap := by
    induction cap with
    | nil => rfl
    | cons u us ih => simp [ogets, ih, oget]
  have e : (#[x] ++ (cap.map Operand.const).toArray).toList = x :: cap.map Operand.const := by simp
  rw [e]
  simp [ogets, hx, h]
/-- how many something is so of: is, a closure, says of each -/
theorem cnt_next (p : Int → Bool) (ms : List Int) (j : Nat) (hj : j < ms.length) : (ms.take (j + 1)).countP p = (ms.take j).countP p + (if p (ms.getD j 0) then 1 else 0) := by
  rw [List.take_succ_eq_append_getElem hj, List.countP_append]
  have e1 : ms.getD j 0 = ms[j] := by simp [List.getD, hj]
  rw [e1, List.countP_singleton]
set_option maxRecDepth 100000 in
set_option maxHeartbeats 4000000 in
theorem counted_any (w : World) (A : Option Addr) (n c f : Nat) (cap : List Value) (ms : List Int) (p : Int → Bool) (h : Rd w All 1 A n (ms.map zv)) (hn : n ≤ 1000) (hf : Fn_ Try.prog f)
    (hp : ∀ w', Kp All w w' → ∀ m, Gives Try.prog f (zv m :: cap) [] w' (X := Unit) (fun _ => .bool (p m)) (fun _ => True) (fun _ => [])) :
    Gives Try.prog 43 [cfv A n c, .func (.func f) #[] cap.toArray] [] w (X := Unit) (fun _ => .int .i64 (ms.countP p : Nat)) (fun _ => True) (fun _ => []) := by
  refine gives_S Try.func43 rfl Try.ntmps43 Try.results43 (by simp) (St.enter w) (fun B hB => ?_)
  have hl : ms.length = n := by have := h.1; simpa using this
  have hne : 0 < n → A ≠ none := fun h0 => by obtain ⟨ad, rfl, _⟩ := h.2 h0; simp
  subst hl
  have hld : ∀ j, j < ms.length → (ms.map zv)[j]? = some (zv (ms.getD j 0)) := fun j hj => zv_at hj
  have hle : ∀ j, (ms.take j).countP p ≤ j := fun j => Nat.le_trans List.countP_le_length (by simp; omega)
  focus (refine S_seq rfl ?_; refine S_region rfl rfl ?_; (refine R_eff (E_boxa rfl) ?_ rfl rfl; rintro _ _ ⟨b, rfl, rfl⟩); refine R_p rfl ?_ rfl rfl; refine R_nil ?_; refine S_seq rfl ?_; refine S_region rfl rfl ?_; refine R_p rfl ?_ rfl rfl; refine R_nil ?_; refine S_seq rfl ?_; refine S_seq rfl ?_; refine S_region rfl rfl ?_; refine R_p rfl ?_ rfl rfl; refine R_take (T_load rfl rfl rfl (by first | rfl | assumption)) ?_ rfl rfl; refine R_p rfl ?_ rfl rfl; refine R_p rfl ?_ rfl rfl; refine R_nil ?_; refine S_block rfl ?_)
  refine S_loop (X := Nat) (fun j => [(1, .func (.func f) #[] cap.toArray), (5, .int .i64 ((ms.take j).countP p : Nat)), (9, .slice A ms.length c), (10, .int .i64 (ms.length : Int)), (11, .int .i64 (j : Int))]) (fun _ => _) (fun j => j ≤ ms.length) (fun j => ms.length - j) rfl 0 (Nat.zero_le _) (Sub.cons rfl (Sub.cons rfl (Sub.cons rfl (Sub.cons rfl (Sub.cons rfl Sub.nil))))) (fun _ h => h) ?_
  rintro j hj J hJ
  have hnx := cnt_next p ms j
  have hld' := hld j
  have hlj := hle j
  obtain ⟨x, hx⟩ : ∃ x, ms.getD j 0 = x := ⟨_, rfl⟩
  obtain ⟨q, hq⟩ : ∃ q, (ms.take j).countP p = q := ⟨_, rfl⟩
  rw [hx] at hnx hld'
  rw [hq] at hnx hlj ⊢
  obtain ⟨bx, hbx⟩ : ∃ bx, p x = bx := ⟨_, rfl⟩
  rw [hbx] at hnx
  focus (refine S_seq rfl ?_; refine S_region rfl rfl ?_; refine R_p rfl ?_ rfl rfl; refine R_nil ?_; refine S_seq rfl ?_; (refine S_if rfl rfl (fun hs => ?_) (fun hs => ?_)); refine S_skip rfl ?_; refine S_seq rfl ?_; refine S_block rfl ?_; refine S_seq rfl ?_; refine S_region rfl rfl ?_; refine R_take (T_ixN rfl rfl rfl rfl rfl rfl (by first | assumption | exact hne (by omega) | exact hne2 (by omega)) (by omega)) ?_ rfl rfl; refine R_take (T_ldr rfl rfl rfl (Srd.old h (fun k _ => noOwns k)) (by omega) (hld' (by omega))) ?_ rfl rfl; refine R_p rfl ?_ rfl rfl; refine R_nil ?_; refine S_seq rfl ?_; refine S_region rfl rfl ?_; refine R_p rfl ?_ rfl rfl; refine R_p rfl ?_ rfl rfl; (refine R_eff (E_cloA (cap := cap) rfl (E_gv0 hf (ogets_cap _ _ (zv x) rfl cap) (fun w' hS => hp w' hS.kpO x) (fun _ => rfl))) ?_ rfl rfl; rintro _ _ ⟨_, rfl, _, rfl⟩); refine R_nil ?_; (refine S_cond rfl rfl (fun hs => ?_) (fun hs => ?_)); refine S_region rfl rfl ?_; refine R_p rfl ?_ rfl rfl; refine R_take (T_addN rfl rfl (by unfold fits; omega)) ?_ rfl rfl; refine R_p rfl ?_ rfl rfl; refine R_nil ?_; refine RS_blk ?_; refine S_region rfl rfl ?_; refine R_take (T_addN rfl rfl (by unfold fits; omega)) ?_ rfl rfl; refine R_p rfl ?_ rfl rfl; refine R_nil ?_; rotate_left; refine S_skip rfl ?_; refine RS_blk ?_; refine S_region rfl rfl ?_; refine R_take (T_addN rfl rfl (by unfold fits; omega)) ?_ rfl rfl; refine R_p rfl ?_ rfl rfl; refine R_nil ?_; rotate_left; refine S_exit rfl rfl ?_; refine S_seq rfl ?_; refine S_region rfl rfl ?_; refine R_p rfl ?_ rfl rfl; refine R_p rfl ?_ rfl rfl; refine R_nil ?_; rotate_left)
  · have e : (ms.take (j + 1)).countP p = q + 1 := by rw [hnx (by omega), ← hbx, hs]; rfl
    refine hJ (j + 1) _ _ (by omega) ?_ (fun _ h => h) (by omega)
    rw [e]
    exact (Sub.cons rfl (Sub.cons rfl (Sub.cons rfl (Sub.cons rfl (Sub.cons rfl Sub.nil)))))
  · have e : (ms.take (j + 1)).countP p = q := by rw [hnx (by omega), ← hbx, hs]; rfl
    refine hJ (j + 1) _ _ (by omega) ?_ (fun _ h => h) (by omega)
    rw [e]
    exact (Sub.cons rfl (Sub.cons rfl (Sub.cons rfl (Sub.cons rfl (Sub.cons rfl Sub.nil)))))
  · have hjn : j = ms.length := by omega
    subst hjn
    rw [List.take_length] at hq
    refine hB _ _ _ _ _ rfl rfl fun w' hS => ⟨(), ?_, trivial, hS.sublist (List.nil_sublist _)⟩
    rw [hq]
    rfl
end Go.Proofs.Ytlihhjldkopfhaa
