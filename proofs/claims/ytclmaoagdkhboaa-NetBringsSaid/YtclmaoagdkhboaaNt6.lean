/- slices.Delete of packets and of cuts; Insert of cuts; Grow and Concat of packets. -/
import Derived.Test.YtclmaoagdkhboaaNt5
namespace Go.Proofs.Ytclmaoagdkhboaa
open Go.RowKit
open Asn (pt row rb)
set_option linter.unusedVariables false
set_option linter.unusedSimpArgs false
--@use N

theorem insM_shift {α} (xs ys vs : List α) (i s m : Nat) (hx : xs.length = m) (hv : vs.length = s) (hi : i + s ≤ m + ys.length) (hi2 : i ≤ m) (R : List α) :
    ((((xs ++ ys).take (i + s) ++ xs.drop i ++ R).take i ++ vs ++ ((xs ++ ys).take (i + s) ++ xs.drop i ++ R).drop (i + s))).take (m + s) = xs.take i ++ vs ++ xs.drop i := by
  have h1 : ((xs ++ ys).take (i + s)).length = i + s := by simp; omega
  have h2 : ((xs ++ ys).take (i + s) ++ xs.drop i ++ R).take i = xs.take i := by
    rw [List.append_assoc, List.take_append_of_le_length (by omega), List.take_take, List.take_append_of_le_length (by omega)]
    congr 1; omega
  have h3 : ((xs ++ ys).take (i + s) ++ xs.drop i ++ R).drop (i + s) = xs.drop i ++ R := by
    rw [List.append_assoc, List.drop_left' h1]
  rw [h2, h3]
  have h4 : xs.take i ++ vs ++ (xs.drop i ++ R) = (xs.take i ++ vs ++ xs.drop i) ++ R := by simp
  rw [h4, List.take_left' (by simp; omega)]
theorem insM_grow {α} (xs zs ys vs : List α) (i s m : Nat) (hx : xs.length = m) (hv : vs.length = s) (hi : i ≤ m) (R Q : List α) :
    (((xs.take i ++ zs ++ ys).take i ++ vs ++ R).take (i + s) ++ xs.drop i ++ Q).take (m + s) = xs.take i ++ vs ++ xs.drop i := by
  have h2 : ((xs.take i ++ zs ++ ys)).take i = xs.take i := by
    rw [List.append_assoc, List.take_left' (by simp; omega)]
  rw [h2, List.take_left' (l₁ := xs.take i ++ vs) (by simp; omega)]
  have h4 : xs.take i ++ vs ++ xs.drop i ++ Q = (xs.take i ++ vs ++ xs.drop i) ++ Q := by simp
  rw [h4, List.take_left' (by simp; omega)]
theorem one_drop {xs : List Value} (h1 : ∀ v ∈ xs, v.oneCell' = true) (i : Nat) : ∀ v ∈ xs.drop i, v.oneCell' = true := fun v hv => h1 v (List.mem_of_mem_drop hv)
theorem part_at (xs ys : List Value) (i : Nat) : ∀ j v, (xs.drop i)[j]? = some v → (xs ++ ys)[0 + i + j]? = some v := fun j v hj => by
  rw [List.getElem?_drop] at hj
  have hl := (List.getElem?_eq_some_iff.1 hj).1
  rw [Nat.zero_add, List.getElem?_append_left hl]
  exact hj
set_option maxRecDepth 100000 in
set_option maxHeartbeats 4000000 in
theorem insertC_any (w : World) (A : Option Addr) (m c vb i : Nat) (xs vs : List Value) (hi : i ≤ m) (hm : m ≤ 1000) (h1 : ∀ v ∈ xs, v.oneCell' = true) (hv1 : ∀ v ∈ vs, v.oneCell' = true) (hvl : vs.length = 2)
    (hS : St w (owns [row 73 2 A m c xs, pt vb 73 vs]) [row 73 2 A m c xs, pt vb 73 vs] w) :
    Gives Try.prog 65 [.slice A m c, .int .i64 (i : Int), .slice (some ⟨vb, 0, none⟩) 1 1] [row 73 2 A m c xs, pt vb 73 vs] w (X := Option Addr × Nat) (fun x => .slice x.1 (m + 1) x.2) (fun _ => True) (fun x => [row 73 2 x.1 (m + 1) x.2 (xs.take (i * 2) ++ vs ++ xs.drop (i * 2))]) := by
  refine gives_S Try.func65 rfl Try.ntmps65 Try.results65 (by simp) hS (fun B hB => ?_)
  refine RS_row A m c fun hmc hcm hne hxl => ?_
  rcases Nat.lt_or_ge i m with him | him
  · rcases Nat.lt_or_ge m c with hroom | hroom
    · refine RS_open A m c (hne (by omega)) fun gb ys hA hyl _ _ _ => ?_
      subst hA
      refine RS_fact (p := vb ≠ gb) (fun w hS => fun e => ?_) fun hvg => ?_
      · subst e
        exact (List.pairwise_cons.1 hS.apart).1 (pt vb 73 vs) (by simp) vb rfl rfl
      focus (refine S_seq rfl ?_; refine S_region rfl rfl ?_; refine R_p rfl ?_ rfl rfl; refine R_nil ?_; refine S_seq rfl ?_; refine S_region rfl rfl ?_; refine R_p rfl ?_ rfl rfl; refine R_p rfl ?_ rfl rfl; refine R_take (T_sllg (sz := 2) rfl rfl rfl rfl rfl rfl (by omega) (by omega) (by omega)) ?_ rfl rfl; refine R_nil ?_; refine S_seq rfl ?_; refine S_region rfl rfl ?_; refine R_p rfl ?_ rfl rfl; refine R_p rfl ?_ rfl rfl; refine R_p rfl ?_ rfl rfl; refine R_nil ?_; refine S_seq rfl ?_; refine S_seq rfl ?_; refine S_region rfl rfl ?_; refine R_p rfl ?_ rfl rfl; refine R_take (T_decF rfl (by omega)) ?_ rfl rfl; refine R_nil ?_; refine S_false rfl rfl ?_; refine S_skip rfl ?_; refine S_seq rfl ?_; refine S_region rfl rfl ?_; refine R_p rfl ?_ rfl rfl; refine R_p rfl ?_ rfl rfl; refine R_p rfl ?_ rfl rfl; refine R_nil ?_; refine S_seq rfl ?_; refine S_seq rfl ?_; refine S_region rfl rfl ?_; refine R_p rfl ?_ rfl rfl; refine R_p rfl ?_ rfl rfl; refine R_take (T_decF rfl (by omega)) ?_ rfl rfl; refine R_nil ?_; refine S_false rfl rfl ?_; refine S_skip rfl ?_; refine S_seq rfl ?_; refine S_seq rfl ?_; refine S_region rfl rfl ?_; refine R_p rfl ?_ rfl rfl; refine R_p rfl ?_ rfl rfl; refine R_take (T_addN rfl rfl (by unfold fits; omega)) ?_ rfl rfl; refine R_p rfl ?_ rfl rfl; refine R_take (T_cap rfl rfl rfl) ?_ rfl rfl; refine R_take (T_decF rfl (by omega)) ?_ rfl rfl; refine R_nil ?_; refine S_false rfl rfl ?_; refine S_skip rfl ?_; refine S_seq rfl ?_; refine S_region rfl rfl ?_; refine R_p rfl ?_ rfl rfl; refine R_p rfl ?_ rfl rfl; refine R_p rfl ?_ rfl rfl; refine R_take (T_addN rfl rfl (by unfold fits; omega)) ?_ rfl rfl; refine R_take (T_slhN rfl rfl rfl rfl rfl (by omega)) ?_ rfl rfl; refine R_p rfl ?_ rfl rfl; refine R_nil ?_; refine S_seq rfl ?_; refine S_seq rfl ?_; refine S_region rfl rfl ?_; refine R_p rfl ?_ rfl rfl; refine R_p rfl ?_ rfl rfl; refine R_p rfl ?_ rfl rfl; refine R_p rfl ?_ rfl rfl; refine R_take (T_addN rfl rfl (by unfold fits; omega)) ?_ rfl rfl; refine R_take (T_sllg (sz := 2) rfl rfl rfl rfl rfl rfl (by omega) (by omega) (by omega)) ?_ rfl rfl; (refine R_eff (E_over (f := 70) (fn := Try.f70) (s := 23) (b := 4) Try.func70 (by kernel_rfl) (by kernel_rfl) (by kernel_rfl) (by kernel_rfl) rfl rfl rfl rfl rfl inferInstance inferInstance hvg (by rw [List.length_append]; omega)) ?_ rfl rfl; rintro _ _ ⟨rfl, rfl⟩); refine R_take (T_not rfl) ?_ rfl rfl; refine R_nil ?_; refine S_true rfl rfl ?_; refine S_seq rfl ?_)
      refine S_draw ([]) sub_st (by kernel_rfl) rfl (by kernel_rfl) (by kernel_rfl : _ = 9) ?_
      refine D_take 0 rfl (pev_ok rfl) ?_ rfl rfl (by kernel_rfl) (by kernel_rfl)
      refine D_take 1 rfl (pev_ok rfl) ?_ rfl rfl (by kernel_rfl) (by kernel_rfl)
      refine D_take 2 rfl (pev_ok rfl) ?_ rfl rfl (by kernel_rfl) (by kernel_rfl)
      (refine D_take 3 rfl (T_addN rfl rfl (by unfold fits; omega)) ?_ rfl rfl (by kernel_rfl) (by kernel_rfl))
      refine D_take 4 rfl (T_sllg (sz := 2) rfl rfl rfl rfl rfl rfl (by omega) (by omega) (by omega)) ?_ rfl rfl (by kernel_rfl) (by kernel_rfl)
      refine D_take 5 rfl (pev_ok rfl) ?_ rfl rfl (by kernel_rfl) (by kernel_rfl)
      refine D_take 6 rfl (pev_ok rfl) ?_ rfl rfl (by kernel_rfl) (by kernel_rfl)
      refine D_take 7 rfl (T_sllg (sz := 2) rfl rfl rfl rfl rfl rfl (by omega) (by omega) (by omega)) ?_ rfl rfl (by kernel_rfl) (by kernel_rfl)
      refine D_one 8 rfl (E_copyn (q := m - i) (cs := xs.drop (i * 2)) rfl rfl rfl rfl rfl (Srd.pt (by show _ = (m - i) * 2; rw [List.length_drop]; omega) (part_at xs ys (i * 2))) (by simp only [Nat.min_def]; split <;> omega) (by rw [List.length_append, List.length_drop]; omega) (one_drop h1 (i * 2)) rfl) ?_ rfl rfl (by kernel_rfl)
      rintro _ _ ⟨rfl, rfl⟩
      refine Nx_same sub_st ?_
      refine D_done ?_ (by kernel_rfl)
      skip
      focus (refine S_seq rfl ?_; refine S_region rfl rfl ?_; refine R_p rfl ?_ rfl rfl; refine R_p rfl ?_ rfl rfl; refine R_take (T_sllg (sz := 2) rfl rfl rfl rfl rfl rfl (by omega) (by omega) (by omega)) ?_ rfl rfl; refine R_p rfl ?_ rfl rfl; (refine R_eff (E_copyn (q := 1) (cs := vs) rfl rfl rfl rfl rfl (Srd.pt (g := vb) hvl (fun j u hj => by rw [Nat.zero_add]; exact hj)) (by simp only [Nat.min_def]; split <;> omega) (by simp; omega) hv1 rfl) ?_ rfl rfl; rintro _ _ ⟨rfl, rfl⟩); refine R_nil ?_; refine S_seq rfl ?_; refine S_region rfl rfl ?_; refine R_p rfl ?_ rfl rfl; refine R_p rfl ?_ rfl rfl; refine R_nil ?_)
      refine hB _ _ _ _ _ rfl rfl fun w' hS => ⟨(some ⟨gb, 0, none⟩, c), rfl, trivial, ?_⟩
      refine (hS.close (m := m + 1) (c := c) (size := 2) (gb := gb) (e := 73) (xs := xs.take (i * 2) ++ vs ++ xs.drop (i * 2)) (by omega) hcm ?_ ?_).sublist (by simp)
      · simp only [List.length_append, List.length_take, List.length_drop, List.length_cons, List.length_nil]; omega
      simp only [Nat.zero_add, Nat.add_mul, Nat.one_mul, hvl, ← Nat.add_assoc]
      exact insM_shift xs ys vs (i * 2) 2 (m * 2) hxl hvl (by omega) (by omega) _
    · skip
      focus (refine S_seq rfl ?_; refine S_region rfl rfl ?_; refine R_p rfl ?_ rfl rfl; refine R_nil ?_; refine S_seq rfl ?_; refine S_region rfl rfl ?_; refine R_p rfl ?_ rfl rfl; refine R_p rfl ?_ rfl rfl; refine R_take (T_slN rfl rfl rfl rfl rfl rfl (by omega) (by omega)) ?_ rfl rfl; refine R_nil ?_; refine S_seq rfl ?_; refine S_region rfl rfl ?_; refine R_p rfl ?_ rfl rfl; refine R_p rfl ?_ rfl rfl; refine R_p rfl ?_ rfl rfl; refine R_nil ?_; refine S_seq rfl ?_; refine S_seq rfl ?_; refine S_region rfl rfl ?_; refine R_p rfl ?_ rfl rfl; refine R_take (T_decF rfl (by omega)) ?_ rfl rfl; refine R_nil ?_; refine S_false rfl rfl ?_; refine S_skip rfl ?_; refine S_seq rfl ?_; refine S_region rfl rfl ?_; refine R_p rfl ?_ rfl rfl; refine R_p rfl ?_ rfl rfl; refine R_p rfl ?_ rfl rfl; refine R_nil ?_; refine S_seq rfl ?_; refine S_seq rfl ?_; refine S_region rfl rfl ?_; refine R_p rfl ?_ rfl rfl; refine R_p rfl ?_ rfl rfl; refine R_take (T_decF rfl (by omega)) ?_ rfl rfl; refine R_nil ?_; refine S_false rfl rfl ?_; refine S_skip rfl ?_; refine S_seq rfl ?_; refine S_seq rfl ?_; refine S_region rfl rfl ?_; refine R_p rfl ?_ rfl rfl; refine R_p rfl ?_ rfl rfl; refine R_take (T_addN rfl rfl (by unfold fits; omega)) ?_ rfl rfl; refine R_p rfl ?_ rfl rfl; refine R_take (T_cap rfl rfl rfl) ?_ rfl rfl; refine R_take (T_decT rfl (by omega)) ?_ rfl rfl; refine R_nil ?_; refine S_true rfl rfl ?_; refine S_seq rfl ?_; refine S_region rfl rfl ?_; refine R_p rfl ?_ rfl rfl; refine R_p rfl ?_ rfl rfl; refine R_take (T_slhN rfl rfl rfl rfl rfl (by omega)) ?_ rfl rfl; refine R_p rfl ?_ rfl rfl; refine R_p rfl ?_ rfl rfl; refine R_take (T_addN rfl rfl (by unfold fits; omega)) ?_ rfl rfl; refine R_p rfl ?_ rfl rfl; refine R_take (T_subN rfl rfl (by omega) (by unfold fits; omega)) ?_ rfl rfl; (refine R_eff (E_appz (sz := 2) (q := m + 1 - i) rfl rfl rfl rfl rfl rfl rfl rfl rfl (by decide) ((Srd.row (n := m) (c := c)).head (by omega)) (by omega) (by omega) (by show (i + (m + 1 - i)) * 16 ≤ _; omega) (by unfold maxLen; omega)) ?_ rfl rfl; rintro _ _ ⟨g2, cc2, zs, ys, rfl, hzs, hyl, hmc2, hcm2, rfl⟩); refine R_p rfl ?_ rfl rfl; refine R_nil ?_; refine S_seq rfl ?_; refine S_region rfl rfl ?_; refine R_p rfl ?_ rfl rfl; refine R_p rfl ?_ rfl rfl; refine R_take (T_sllg (sz := 2) rfl rfl rfl rfl rfl rfl (by omega) (by omega) (by omega)) ?_ rfl rfl; refine R_p rfl ?_ rfl rfl; (refine R_eff (E_copyn (q := 1) (cs := vs) rfl rfl rfl rfl rfl (Srd.pt (g := vb) hvl (fun j u hj => by rw [Nat.zero_add]; exact hj)) (by simp only [Nat.min_def]; split <;> omega) (by simp; omega) hv1 rfl) ?_ rfl rfl; rintro _ _ ⟨rfl, rfl⟩); refine R_nil ?_; refine S_seq rfl ?_)
      refine S_draw ([]) sub_st (by kernel_rfl) rfl (by kernel_rfl) (by kernel_rfl : _ = 9) ?_
      refine D_take 0 rfl (pev_ok rfl) ?_ rfl rfl (by kernel_rfl) (by kernel_rfl)
      refine D_take 1 rfl (pev_ok rfl) ?_ rfl rfl (by kernel_rfl) (by kernel_rfl)
      refine D_take 2 rfl (pev_ok rfl) ?_ rfl rfl (by kernel_rfl) (by kernel_rfl)
      (refine D_take 3 rfl (T_addN rfl rfl (by unfold fits; omega)) ?_ rfl rfl (by kernel_rfl) (by kernel_rfl))
      refine D_take 4 rfl (T_sllg (sz := 2) rfl rfl rfl rfl rfl rfl (by omega) (by omega) (by omega)) ?_ rfl rfl (by kernel_rfl) (by kernel_rfl)
      refine D_take 5 rfl (pev_ok rfl) ?_ rfl rfl (by kernel_rfl) (by kernel_rfl)
      refine D_take 6 rfl (pev_ok rfl) ?_ rfl rfl (by kernel_rfl) (by kernel_rfl)
      refine D_take 7 rfl (T_slN rfl rfl rfl rfl rfl rfl (by omega) (by omega)) ?_ rfl rfl (by kernel_rfl) (by kernel_rfl)
      refine D_one 8 rfl (E_copyn (q := m - i) (cs := xs.drop (i * 2)) rfl rfl rfl rfl rfl ((Srd.row (n := m) (c := c)).cutP (by omega) (by omega)) (by simp only [Nat.min_def]; split <;> omega) (by simp; omega) (one_drop h1 (i * 2)) rfl) ?_ rfl rfl (by kernel_rfl)
      rintro _ _ ⟨rfl, rfl⟩
      refine Nx_same sub_st ?_
      refine D_done ?_ (by kernel_rfl)
      skip
      focus (refine S_seq rfl ?_; refine S_region rfl rfl ?_; refine R_p rfl ?_ rfl rfl; refine R_p rfl ?_ rfl rfl; refine R_nil ?_)
      refine hB _ _ _ _ _ rfl rfl fun w' hS => ⟨(some ⟨g2, 0, none⟩, cc2), by simp only [retv]; congr 1; omega, trivial, ?_⟩
      refine (hS.close (m := m + 1) (c := cc2) (size := 2) (gb := g2) (e := 73) (xs := xs.take (i * 2) ++ vs ++ xs.drop (i * 2)) (by omega) hcm2 ?_ ?_).sublist (by simp)
      · simp only [List.length_append, List.length_take, List.length_drop, List.length_cons, List.length_nil]; omega
      simp only [Nat.zero_add, Nat.add_mul, Nat.one_mul, hvl, ← Nat.add_assoc]
      exact insM_grow xs zs ys vs (i * 2) 2 (m * 2) hxl hvl (by omega) _ _
  · obtain rfl : i = m := by omega
    focus (refine S_seq rfl ?_; refine S_region rfl rfl ?_; refine R_p rfl ?_ rfl rfl; refine R_nil ?_; refine S_seq rfl ?_; refine S_region rfl rfl ?_; refine R_p rfl ?_ rfl rfl; refine R_p rfl ?_ rfl rfl; refine R_take (T_slN rfl rfl rfl rfl rfl rfl (by omega) (by omega)) ?_ rfl rfl; refine R_nil ?_; refine S_seq rfl ?_; refine S_region rfl rfl ?_; refine R_p rfl ?_ rfl rfl; refine R_p rfl ?_ rfl rfl; refine R_p rfl ?_ rfl rfl; refine R_nil ?_; refine S_seq rfl ?_; refine S_seq rfl ?_; refine S_region rfl rfl ?_; refine R_p rfl ?_ rfl rfl; refine R_take (T_decF rfl (by omega)) ?_ rfl rfl; refine R_nil ?_; refine S_false rfl rfl ?_; refine S_skip rfl ?_; refine S_seq rfl ?_; refine S_region rfl rfl ?_; refine R_p rfl ?_ rfl rfl; refine R_p rfl ?_ rfl rfl; refine R_p rfl ?_ rfl rfl; refine R_nil ?_; refine S_seq rfl ?_; refine S_seq rfl ?_; refine S_region rfl rfl ?_; refine R_p rfl ?_ rfl rfl; refine R_p rfl ?_ rfl rfl; refine R_take (T_decT rfl (by omega)) ?_ rfl rfl; refine R_nil ?_; refine S_true rfl rfl ?_; refine S_seq rfl ?_; refine S_region rfl rfl ?_; refine R_p rfl ?_ rfl rfl; refine R_p rfl ?_ rfl rfl; (refine R_eff (E_appS (sz := 2) rfl rfl rfl rfl rfl rfl rfl (by decide) (Srd.pt (n := 1) (g := vb) (ds := vs) hvl (fun j u hj => by rw [Nat.zero_add]; exact hj)) hv1 (by show (i + 1) * 16 ≤ _; omega) (by unfold maxLen; omega)) ?_ rfl rfl; rintro _ _ ⟨A2, cc2, rfl, rfl⟩); refine R_p rfl ?_ rfl rfl; refine R_nil ?_)
    refine hB _ _ _ _ _ rfl rfl fun w' hS => ⟨(A2, cc2), rfl, trivial, ?_⟩
    rw [List.take_of_length_le (by omega), List.drop_eq_nil_of_le (by omega), List.append_nil]
    exact hS.sublist (by simp)
set_option maxRecDepth 100000 in
set_option maxHeartbeats 4000000 in
theorem deleteC_any (w : World) (A : Option Addr) (m c i j : Nat) (xs : List Value) (hi : i < j) (hj : j ≤ m) (hm : m ≤ 1000) (h1 : ∀ v ∈ xs, v.oneCell' = true)
    (hS : St w (owns [row 73 2 A m c xs]) [row 73 2 A m c xs] w) :
    Gives Try.prog 66 [.slice A m c, .int .i64 (i : Int), .int .i64 (j : Int)] [row 73 2 A m c xs] w (X := Option Addr × Nat) (fun x => .slice x.1 (i + (m - j)) x.2) (fun _ => True) (fun x => [row 73 2 x.1 (i + (m - j)) x.2 (xs.take (i * 2) ++ xs.drop (j * 2))]) := by
  refine gives_S Try.func66 rfl Try.ntmps66 Try.results66 (by simp) hS (fun B hB => ?_)
  refine RS_row A m c fun hmc hcm hne hxl => ?_
  refine RS_open A m c (hne (by omega)) fun gb ys hA hyl _ _ _ => ?_
  subst hA
  focus (refine S_seq rfl ?_; refine S_region rfl rfl ?_; refine R_p rfl ?_ rfl rfl; refine R_nil ?_; refine S_seq rfl ?_; refine S_region rfl rfl ?_; refine R_p rfl ?_ rfl rfl; refine R_p rfl ?_ rfl rfl; refine R_p rfl ?_ rfl rfl; refine R_p rfl ?_ rfl rfl; refine R_p rfl ?_ rfl rfl; refine R_take (T_slbm rfl rfl rfl rfl rfl rfl rfl rfl (by omega) (by omega) (by omega)) ?_ rfl rfl; refine R_nil ?_; refine S_seq rfl ?_; refine S_seq rfl ?_; refine S_region rfl rfl ?_; refine R_p rfl ?_ rfl rfl; refine R_p rfl ?_ rfl rfl; refine R_take (T_decF rfl (by omega)) ?_ rfl rfl; refine R_nil ?_; refine S_false rfl rfl ?_; refine S_skip rfl ?_; refine S_seq rfl ?_; refine S_region rfl rfl ?_; refine R_p rfl ?_ rfl rfl; refine R_p rfl ?_ rfl rfl; refine R_p rfl ?_ rfl rfl; refine R_nil ?_; refine S_seq rfl ?_)
  refine S_draw ([]) sub_st (by kernel_rfl) rfl (by kernel_rfl) (by kernel_rfl : _ = 8) ?_
  refine D_take 0 rfl (pev_ok rfl) ?_ rfl rfl (by kernel_rfl) (by kernel_rfl)
  refine D_take 1 rfl (pev_ok rfl) ?_ rfl rfl (by kernel_rfl) (by kernel_rfl)
  refine D_take 2 rfl (T_slhN rfl rfl rfl rfl rfl (by omega)) ?_ rfl rfl (by kernel_rfl) (by kernel_rfl)
  refine D_take 3 rfl (pev_ok rfl) ?_ rfl rfl (by kernel_rfl) (by kernel_rfl)
  refine D_take 4 rfl (pev_ok rfl) ?_ rfl rfl (by kernel_rfl) (by kernel_rfl)
  refine D_take 5 rfl (T_slN (sz := 2) rfl rfl rfl rfl rfl rfl (by omega) (by omega)) ?_ rfl rfl (by kernel_rfl) (by kernel_rfl)
  refine D_one 6 rfl (E_appin (sz := 2) (m2 := m - j) (news := xs.drop (j * 2)) rfl rfl rfl rfl rfl rfl (by first | exact ((Srd.pt (g := gb) (off := 0) (n := m) (ds := xs) hxl (fun q v hq => by rw [Nat.zero_add, List.getElem?_append_left (List.getElem?_eq_some_iff.1 hq).1]; exact hq)).cutP (by omega) (by omega))) (one_drop h1 (j * 2)) (by omega) (by simp only [List.length_append, List.length_take, List.length_drop]; omega) rfl) ?_ rfl rfl (by kernel_rfl)
  rintro _ _ ⟨rfl, rfl⟩
  refine Nx_same sub_st ?_
  refine D_take 7 rfl (pev_ok rfl) ?_ rfl rfl (by kernel_rfl) (by kernel_rfl)
  refine D_done ?_ (by kernel_rfl)
  skip
  focus (refine S_seq rfl ?_; refine S_region rfl rfl ?_; refine R_p rfl ?_ rfl rfl; refine R_p rfl ?_ rfl rfl; refine R_p rfl ?_ rfl rfl; refine R_p rfl ?_ rfl rfl; refine R_take (T_slbg (sz := 2) rfl rfl rfl rfl rfl rfl rfl (by omega) (by omega) (by omega)) ?_ rfl rfl; (refine R_eff0 (E_clear (sz := 2) rfl rfl rfl rfl rfl rfl rfl (by simp only [List.length_append, List.length_take, List.length_drop]; omega)) ?_ rfl; rintro _ _ ⟨zs, -, hzs, rfl⟩); refine R_nil ?_; refine S_seq rfl ?_; refine S_region rfl rfl ?_; refine R_p rfl ?_ rfl rfl; refine R_p rfl ?_ rfl rfl; refine R_nil ?_)
  all_goals (try (exfalso; omega))
  refine hB _ _ _ _ _ rfl rfl fun w' hS => ⟨(some ⟨gb, 0, none⟩, c), rfl, trivial, ?_⟩
  refine (hS.close (m := i + (m - j)) (c := c) (size := 2) (gb := gb) (e := 73) (xs := xs.take (i * 2) ++ xs.drop (j * 2)) (by omega) hcm ?_ ?_)
  · simp only [List.length_append, List.length_take, List.length_drop, List.length_cons, List.length_nil]; omega
  · simp only [Nat.zero_add, Nat.add_mul, Nat.sub_mul]
    exact del_ xs ys zs (i * 2) (j * 2) (m * 2) hxl (by omega) (by omega) _ _
set_option maxRecDepth 100000 in
set_option maxHeartbeats 4000000 in
theorem deleteP_any (w : World) (A : Option Addr) (m c i j : Nat) (xs : List Value) (hi : i < j) (hj : j ≤ m) (hm : m ≤ 1000) (h1 : ∀ v ∈ xs, v.oneCell' = true)
    (hS : St w (owns [row 30 3 A m c xs]) [row 30 3 A m c xs] w) :
    Gives Try.prog 33 [.slice A m c, .int .i64 (i : Int), .int .i64 (j : Int)] [row 30 3 A m c xs] w (X := Option Addr × Nat) (fun x => .slice x.1 (i + (m - j)) x.2) (fun _ => True) (fun x => [row 30 3 x.1 (i + (m - j)) x.2 (xs.take (i * 3) ++ xs.drop (j * 3))]) := by
  refine gives_S Try.func33 rfl Try.ntmps33 Try.results33 (by simp) hS (fun B hB => ?_)
  refine RS_row A m c fun hmc hcm hne hxl => ?_
  refine RS_open A m c (hne (by omega)) fun gb ys hA hyl _ _ _ => ?_
  subst hA
  focus (refine S_seq rfl ?_; refine S_region rfl rfl ?_; refine R_p rfl ?_ rfl rfl; refine R_nil ?_; refine S_seq rfl ?_; refine S_region rfl rfl ?_; refine R_p rfl ?_ rfl rfl; refine R_p rfl ?_ rfl rfl; refine R_p rfl ?_ rfl rfl; refine R_p rfl ?_ rfl rfl; refine R_p rfl ?_ rfl rfl; refine R_take (T_slbm rfl rfl rfl rfl rfl rfl rfl rfl (by omega) (by omega) (by omega)) ?_ rfl rfl; refine R_nil ?_; refine S_seq rfl ?_; refine S_seq rfl ?_; refine S_region rfl rfl ?_; refine R_p rfl ?_ rfl rfl; refine R_p rfl ?_ rfl rfl; refine R_take (T_decF rfl (by omega)) ?_ rfl rfl; refine R_nil ?_; refine S_false rfl rfl ?_; refine S_skip rfl ?_; refine S_seq rfl ?_; refine S_region rfl rfl ?_; refine R_p rfl ?_ rfl rfl; refine R_p rfl ?_ rfl rfl; refine R_p rfl ?_ rfl rfl; refine R_nil ?_; refine S_seq rfl ?_)
  refine S_draw ([]) sub_st (by kernel_rfl) rfl (by kernel_rfl) (by kernel_rfl : _ = 8) ?_
  refine D_take 0 rfl (pev_ok rfl) ?_ rfl rfl (by kernel_rfl) (by kernel_rfl)
  refine D_take 1 rfl (pev_ok rfl) ?_ rfl rfl (by kernel_rfl) (by kernel_rfl)
  refine D_take 2 rfl (T_slhN rfl rfl rfl rfl rfl (by omega)) ?_ rfl rfl (by kernel_rfl) (by kernel_rfl)
  refine D_take 3 rfl (pev_ok rfl) ?_ rfl rfl (by kernel_rfl) (by kernel_rfl)
  refine D_take 4 rfl (pev_ok rfl) ?_ rfl rfl (by kernel_rfl) (by kernel_rfl)
  refine D_take 5 rfl (T_slN (sz := 3) rfl rfl rfl rfl rfl rfl (by omega) (by omega)) ?_ rfl rfl (by kernel_rfl) (by kernel_rfl)
  refine D_one 6 rfl (E_appin (sz := 3) (m2 := m - j) (news := xs.drop (j * 3)) rfl rfl rfl rfl rfl rfl (by first | exact ((Srd.pt (g := gb) (off := 0) (n := m) (ds := xs) hxl (fun q v hq => by rw [Nat.zero_add, List.getElem?_append_left (List.getElem?_eq_some_iff.1 hq).1]; exact hq)).cutP (by omega) (by omega))) (one_drop h1 (j * 3)) (by omega) (by simp only [List.length_append, List.length_take, List.length_drop]; omega) rfl) ?_ rfl rfl (by kernel_rfl)
  rintro _ _ ⟨rfl, rfl⟩
  refine Nx_same sub_st ?_
  refine D_take 7 rfl (pev_ok rfl) ?_ rfl rfl (by kernel_rfl) (by kernel_rfl)
  refine D_done ?_ (by kernel_rfl)
  skip
  focus (refine S_seq rfl ?_; refine S_region rfl rfl ?_; refine R_p rfl ?_ rfl rfl; refine R_p rfl ?_ rfl rfl; refine R_p rfl ?_ rfl rfl; refine R_p rfl ?_ rfl rfl; refine R_take (T_slbg (sz := 3) rfl rfl rfl rfl rfl rfl rfl (by omega) (by omega) (by omega)) ?_ rfl rfl; (refine R_eff0 (E_clear (sz := 3) rfl rfl rfl rfl rfl rfl rfl (by simp only [List.length_append, List.length_take, List.length_drop]; omega)) ?_ rfl; rintro _ _ ⟨zs, -, hzs, rfl⟩); refine R_nil ?_; refine S_seq rfl ?_; refine S_region rfl rfl ?_; refine R_p rfl ?_ rfl rfl; refine R_p rfl ?_ rfl rfl; refine R_nil ?_)
  all_goals (try (exfalso; omega))
  refine hB _ _ _ _ _ rfl rfl fun w' hS => ⟨(some ⟨gb, 0, none⟩, c), rfl, trivial, ?_⟩
  refine (hS.close (m := i + (m - j)) (c := c) (size := 3) (gb := gb) (e := 30) (xs := xs.take (i * 3) ++ xs.drop (j * 3)) (by omega) hcm ?_ ?_)
  · simp only [List.length_append, List.length_take, List.length_drop, List.length_cons, List.length_nil]; omega
  · simp only [Nat.zero_add, Nat.add_mul, Nat.sub_mul]
    exact del_ xs ys zs (i * 3) (j * 3) (m * 3) hxl (by omega) (by omega) _ _
set_option maxRecDepth 100000 in
set_option maxHeartbeats 4000000 in
theorem grow_any (w : World) (q : Nat) (hq : 0 < q) (hq2 : q ≤ 1000) :
    Gives Try.prog 58 [.slice none 0 0, .int .i64 (q : Int)] [] w (X := Option Addr × Nat) (fun x => .slice x.1 0 x.2) (fun _ => True) (fun x => [row 30 3 x.1 0 x.2 []]) := by
  refine gives_S Try.func58 rfl Try.ntmps58 Try.results58 (by simp) (St.enter w) (fun B hB => ?_)
  refine RS_mem (fun w hS => hS.nilrow 30 3) ?_
  focus (refine S_seq rfl ?_; refine S_region rfl rfl ?_; refine R_p rfl ?_ rfl rfl; refine R_nil ?_; refine S_seq rfl ?_; refine S_seq rfl ?_; refine S_region rfl rfl ?_; refine R_p rfl ?_ rfl rfl; refine R_take (T_decF rfl (by omega)) ?_ rfl rfl; refine R_nil ?_; refine S_false rfl rfl ?_; refine S_skip rfl ?_; refine S_seq rfl ?_; refine S_seq rfl ?_; refine S_region rfl rfl ?_; refine R_p rfl ?_ rfl rfl; refine R_p rfl ?_ rfl rfl; refine R_take (T_cap rfl rfl rfl) ?_ rfl rfl; refine R_p rfl ?_ rfl rfl; refine R_p rfl ?_ rfl rfl; refine R_take (T_subN rfl rfl (by omega) (by unfold fits; omega)) ?_ rfl rfl; refine R_take (T_subN rfl rfl (by omega) (by unfold fits; omega)) ?_ rfl rfl; refine R_p rfl ?_ rfl rfl; refine R_nil ?_; refine S_seq rfl ?_; refine S_region rfl rfl ?_; refine R_p rfl ?_ rfl rfl; refine R_take (T_decT rfl (by omega)) ?_ rfl rfl; refine R_nil ?_; refine S_true rfl rfl ?_; refine S_region rfl rfl ?_; refine R_p rfl ?_ rfl rfl; refine R_p rfl ?_ rfl rfl; refine R_take (T_cap rfl rfl rfl) ?_ rfl rfl; refine R_take (T_slhN rfl rfl rfl rfl rfl (by omega)) ?_ rfl rfl; refine R_p rfl ?_ rfl rfl; (refine R_eff (E_appz (sz := 3) (q := q) rfl rfl rfl rfl rfl rfl rfl rfl rfl (by decide) ((Srd.row (n := 0) (c := 0)).head (by omega)) (by omega) (by omega) (by show (0 + q) * 40 ≤ _; omega) (by unfold maxLen; omega)) ?_ rfl rfl; rintro _ _ ⟨g2, cc2, zs, ys, rfl, hzs, hyl, hmc2, hcm2, rfl⟩); refine R_p rfl ?_ rfl rfl; refine R_p rfl ?_ rfl rfl; refine R_take (T_slhN rfl rfl rfl rfl rfl (by omega)) ?_ rfl rfl; refine R_p rfl ?_ rfl rfl; refine R_nil ?_; refine S_seq rfl ?_; refine S_region rfl rfl ?_; refine R_p rfl ?_ rfl rfl; refine R_p rfl ?_ rfl rfl; refine R_nil ?_)
  refine hB _ _ _ _ _ rfl rfl fun w' hS => ⟨(some ⟨g2, 0, none⟩, cc2), rfl, trivial, ?_⟩
  exact (hS.close (m := 0) (c := cc2) (size := 3) (gb := g2) (e := 30) (xs := []) (by omega) hcm2 (by simp; omega) (by simp)).sublist (by simp)
set_option maxRecDepth 100000 in
set_option maxHeartbeats 4000000 in
theorem concat_any (w : World) (va : Nat) (A : Option Addr) (n c : Nat) (vb : Nat) (xs vs : List Value) (h0 : Rd w All 1 (some ⟨va, 0, none⟩) 2 [.slice A n c, .slice (some ⟨vb, 0, none⟩) 1 1]) (h : Rd w All 3 A n xs) (h2 : Rd w All 3 (some ⟨vb, 0, none⟩) 1 vs) (h1 : ∀ v ∈ xs, v.oneCell' = true) (hv : ∀ v ∈ vs, v.oneCell' = true) (hn : n ≤ 500) :
    Gives Try.prog 39 [.slice (some ⟨va, 0, none⟩) 2 2] [] w (X := Option Addr × Nat) (fun x => .slice x.1 (n + 1) x.2) (fun _ => True) (fun x => [row 30 3 x.1 (n + 1) x.2 (xs ++ vs)]) := by
  refine gives_S Try.func39 rfl Try.ntmps39 Try.results39 (by simp) (St.enter w) (fun B hB => ?_)
  have hxl : xs.length = n * 3 := h.1
  have hat0 : ([.slice A n c, .slice (some ⟨vb, 0, none⟩) 1 1] : List Value)[0]? = some (.slice A n c) := rfl
  have hat1 : ([.slice A n c, .slice (some ⟨vb, 0, none⟩) 1 1] : List Value)[1]? = some (.slice (some ⟨vb, 0, none⟩) 1 1) := rfl
  have hnea : (some ⟨va, 0, none⟩ : Option Addr) ≠ none := by simp
  focus (refine S_seq rfl ?_; refine S_region rfl rfl ?_; refine R_p rfl ?_ rfl rfl; refine R_nil ?_; refine S_seq rfl ?_; refine S_region rfl rfl ?_; refine R_p rfl ?_ rfl rfl; refine R_nil ?_; refine S_seq rfl ?_; refine S_seq rfl ?_; refine S_region rfl rfl ?_; refine R_p rfl ?_ rfl rfl; refine R_p rfl ?_ rfl rfl; refine R_p rfl ?_ rfl rfl; refine R_nil ?_; refine S_block rfl ?_)
  refine S_loop (X := Nat) (fun j => [(0, .slice (some ⟨va, 0, none⟩) 2 2), (3, .int .i64 ((if j = 0 then 0 else if j = 1 then 0 + n else 0 + n + 1 : Nat) : Int)), (9, .slice (some ⟨va, 0, none⟩) 2 2), (10, .int .i64 ((2 : Nat) : Int)), (11, .int .i64 (j : Int))]) (fun _ => []) (fun j => j ≤ 2) (fun j => 2 - j) rfl 0 (Nat.zero_le _) (Sub.cons rfl (Sub.cons rfl (Sub.cons rfl (Sub.cons rfl (Sub.cons rfl Sub.nil))))) (fun _ h => h) ?_
  rintro j hj J hJ
  rcases (show j = 0 ∨ j = 1 ∨ j = 2 by omega) with rfl | rfl | rfl
  · rw [if_pos rfl]
    focus (refine S_seq rfl ?_; refine S_region rfl rfl ?_; refine R_take (T_decT rfl (by omega)) ?_ rfl rfl; refine R_nil ?_; refine S_seq rfl ?_; refine S_true rfl rfl ?_; refine S_skip rfl ?_; refine S_seq rfl ?_; refine S_block rfl ?_; refine S_seq rfl ?_; refine S_region rfl rfl ?_; refine R_take (T_ixN (q := 0) rfl rfl rfl rfl rfl rfl hnea (by omega)) ?_ rfl rfl; refine R_take (T_ldr rfl rfl rfl (Srd.old h0 (fun k _ => noOwns k)) (by omega) hat0) ?_ rfl rfl; refine R_p rfl ?_ rfl rfl; refine R_nil ?_; refine S_seq rfl ?_; refine S_region rfl rfl ?_; refine R_p rfl ?_ rfl rfl; refine R_p rfl ?_ rfl rfl; refine R_p rfl ?_ rfl rfl; refine R_take (T_addN rfl rfl (by unfold fits; omega)) ?_ rfl rfl; refine R_p rfl ?_ rfl rfl; refine R_nil ?_; refine S_seq rfl ?_; refine S_region rfl rfl ?_; refine R_p rfl ?_ rfl rfl; refine R_take (T_decF rfl (by omega)) ?_ rfl rfl; refine R_nil ?_; refine S_false rfl rfl ?_; refine S_skip rfl ?_; refine RS_blk ?_; refine S_region rfl rfl ?_; refine R_take (T_addN rfl rfl (by unfold fits; omega)) ?_ rfl rfl; refine R_p rfl ?_ rfl rfl; refine R_nil ?_)
    refine hJ 1 _ _ (by omega) (Sub.cons rfl (Sub.cons rfl (Sub.cons rfl (Sub.cons rfl (Sub.cons rfl Sub.nil))))) (fun _ h => h) (by omega)
  · rw [if_neg (by decide), if_pos rfl]
    focus (refine S_seq rfl ?_; refine S_region rfl rfl ?_; refine R_take (T_decT rfl (by omega)) ?_ rfl rfl; refine R_nil ?_; refine S_seq rfl ?_; refine S_true rfl rfl ?_; refine S_skip rfl ?_; refine S_seq rfl ?_; refine S_block rfl ?_; refine S_seq rfl ?_; refine S_region rfl rfl ?_; refine R_take (T_ixN (q := 1) rfl rfl rfl rfl rfl rfl hnea (by omega)) ?_ rfl rfl; refine R_take (T_ldr rfl rfl rfl (Srd.old h0 (fun k _ => noOwns k)) (by omega) hat1) ?_ rfl rfl; refine R_p rfl ?_ rfl rfl; refine R_nil ?_; refine S_seq rfl ?_; refine S_region rfl rfl ?_; refine R_p rfl ?_ rfl rfl; refine R_p rfl ?_ rfl rfl; refine R_p rfl ?_ rfl rfl; refine R_take (T_addN rfl rfl (by unfold fits; omega)) ?_ rfl rfl; refine R_p rfl ?_ rfl rfl; refine R_nil ?_; refine S_seq rfl ?_; refine S_region rfl rfl ?_; refine R_p rfl ?_ rfl rfl; refine R_take (T_decF rfl (by omega)) ?_ rfl rfl; refine R_nil ?_; refine S_false rfl rfl ?_; refine S_skip rfl ?_; refine RS_blk ?_; refine S_region rfl rfl ?_; refine R_take (T_addN rfl rfl (by unfold fits; omega)) ?_ rfl rfl; refine R_p rfl ?_ rfl rfl; refine R_nil ?_)
    refine hJ 2 _ _ (by omega) (Sub.cons rfl (Sub.cons rfl (Sub.cons rfl (Sub.cons rfl (Sub.cons rfl Sub.nil))))) (fun _ h => h) (by omega)
  rw [if_neg (by decide), if_neg (by decide), Nat.zero_add]
  focus (refine S_seq rfl ?_; refine S_region rfl rfl ?_; refine R_take (T_decF rfl (by omega)) ?_ rfl rfl; refine R_nil ?_; refine S_seq rfl ?_; refine S_false rfl rfl ?_; refine S_exit rfl rfl ?_; refine S_seq rfl ?_; refine S_region rfl rfl ?_; refine R_p rfl ?_ rfl rfl; (refine R_eff (E_hvG (f := 58) ⟨_, Try.func58, rfl, by kernel_rfl⟩ (fun w hS => grow_any w (n + 1) (by omega) (by omega)) rfl rfl) ?_ rfl rfl; rintro _ _ ⟨⟨A6, c6⟩, rfl, _, rfl⟩; dsimp only [List.cons_append, List.nil_append]); refine R_p rfl ?_ rfl rfl; refine R_nil ?_; refine S_seq rfl ?_; refine S_seq rfl ?_; refine S_region rfl rfl ?_; refine R_p rfl ?_ rfl rfl; refine R_p rfl ?_ rfl rfl; refine R_p rfl ?_ rfl rfl; refine R_nil ?_; refine S_block rfl ?_)
  refine S_loop (X := Nat × (Option Addr × Nat)) (fun x => [(6, .slice x.2.1 (if x.1 = 0 then 0 else if x.1 = 1 then 0 + n else 0 + n + 1) x.2.2), (25, .slice (some ⟨va, 0, none⟩) 2 2), (26, .int .i64 ((2 : Nat) : Int)), (27, .int .i64 (x.1 : Int))]) (fun x => [row 30 3 x.2.1 (if x.1 = 0 then 0 else if x.1 = 1 then 0 + n else 0 + n + 1) x.2.2 (if x.1 = 0 then [] else if x.1 = 1 then xs else xs ++ vs)]) (fun x => x.1 ≤ 2) (fun x => 2 - x.1) rfl (0, (A6, c6)) (Nat.zero_le _) (Sub.cons rfl (Sub.cons rfl (Sub.cons rfl (Sub.cons rfl Sub.nil)))) (fun w hS => sub_st (H' := [row 30 3 A6 0 c6 []]) w hS) ?_
  rintro ⟨j, A5, c5⟩ hj J2 hJ2
  dsimp only at hj ⊢
  rcases (show j = 0 ∨ j = 1 ∨ j = 2 by omega) with rfl | rfl | rfl
  · rw [if_pos rfl, if_pos rfl]
    focus (refine S_seq rfl ?_; refine S_region rfl rfl ?_; refine R_take (T_decT rfl (by omega)) ?_ rfl rfl; refine R_nil ?_; refine S_seq rfl ?_; refine S_true rfl rfl ?_; refine S_skip rfl ?_; refine S_seq rfl ?_; refine S_block rfl ?_; refine S_seq rfl ?_; refine S_region rfl rfl ?_; refine R_take (T_ixN (q := 0) rfl rfl rfl rfl rfl rfl hnea (by omega)) ?_ rfl rfl; refine R_take (T_ldr rfl rfl rfl (Srd.old h0 (fun k _ => noOwns k)) (by omega) hat0) ?_ rfl rfl; refine R_p rfl ?_ rfl rfl; refine R_nil ?_; refine S_region rfl rfl ?_; refine R_p rfl ?_ rfl rfl; refine R_p rfl ?_ rfl rfl; (refine R_eff (E_appS (sz := 3) (m := 0) (c := c5) (A := A5) rfl rfl rfl rfl rfl rfl rfl (by decide) (Srd.old h (fun k _ => noOwns k)) h1 (by show (0 + n) * 40 ≤ _; omega) (by unfold maxLen; omega)) ?_ rfl rfl; rintro _ _ ⟨A7, c7, rfl, rfl⟩); refine R_p rfl ?_ rfl rfl; refine R_nil ?_; refine RS_blk ?_; refine S_region rfl rfl ?_; refine R_take (T_addN rfl rfl (by unfold fits; omega)) ?_ rfl rfl; refine R_p rfl ?_ rfl rfl; refine R_nil ?_)
    refine hJ2 (1, A7, c7) _ _ (by show 1 ≤ 2; omega) (Sub.cons rfl (Sub.cons rfl (Sub.cons rfl (Sub.cons rfl Sub.nil)))) (fun w hS => ?_) (by show 2 - 1 < 2 - 0; omega)
    exact sub_st (H' := [row 30 3 A7 (0 + n) c7 ([] ++ xs)]) w hS
  · rw [if_neg (by decide), if_pos rfl, if_neg (by decide), if_pos rfl]
    focus (refine S_seq rfl ?_; refine S_region rfl rfl ?_; refine R_take (T_decT rfl (by omega)) ?_ rfl rfl; refine R_nil ?_; refine S_seq rfl ?_; refine S_true rfl rfl ?_; refine S_skip rfl ?_; refine S_seq rfl ?_; refine S_block rfl ?_; refine S_seq rfl ?_; refine S_region rfl rfl ?_; refine R_take (T_ixN (q := 1) rfl rfl rfl rfl rfl rfl hnea (by omega)) ?_ rfl rfl; refine R_take (T_ldr rfl rfl rfl (Srd.old h0 (fun k _ => noOwns k)) (by omega) hat1) ?_ rfl rfl; refine R_p rfl ?_ rfl rfl; refine R_nil ?_; refine S_region rfl rfl ?_; refine R_p rfl ?_ rfl rfl; refine R_p rfl ?_ rfl rfl; (refine R_eff (E_appS (sz := 3) (m := 0 + n) (c := c5) (A := A5) rfl rfl rfl rfl rfl rfl rfl (by decide) (Srd.old h2 (fun k _ => noOwns k)) hv (by show (0 + n + 1) * 40 ≤ _; omega) (by unfold maxLen; omega)) ?_ rfl rfl; rintro _ _ ⟨A7, c7, rfl, rfl⟩); refine R_p rfl ?_ rfl rfl; refine R_nil ?_; refine RS_blk ?_; refine S_region rfl rfl ?_; refine R_take (T_addN rfl rfl (by unfold fits; omega)) ?_ rfl rfl; refine R_p rfl ?_ rfl rfl; refine R_nil ?_)
    refine hJ2 (2, A7, c7) _ _ (by show 2 ≤ 2; omega) (Sub.cons rfl (Sub.cons rfl (Sub.cons rfl (Sub.cons rfl Sub.nil)))) (fun w hS => ?_) (by show 2 - 2 < 2 - 1; omega)
    exact sub_st (H' := [row 30 3 A7 (0 + n + 1) c7 (xs ++ vs)]) w hS
  rw [if_neg (by decide), if_neg (by decide), if_neg (by decide), if_neg (by decide), Nat.zero_add]
  focus (refine S_seq rfl ?_; refine S_region rfl rfl ?_; refine R_take (T_decF rfl (by omega)) ?_ rfl rfl; refine R_nil ?_; refine S_seq rfl ?_; refine S_false rfl rfl ?_; refine S_exit rfl rfl ?_; refine S_seq rfl ?_; refine S_region rfl rfl ?_; refine R_p rfl ?_ rfl rfl; refine R_p rfl ?_ rfl rfl; refine R_nil ?_)
  exact hB _ _ _ _ _ rfl rfl fun w' hS => ⟨(A5, c5), rfl, trivial, hS⟩
end Go.Proofs.Ytclmaoagdkhboaa
