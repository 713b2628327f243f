/- Members: slices.Clone, slices.Insert, slices.Delete. -/
import Derived.Test.YtlihhjldkopfhaaCo4
import Derived.Test.YtlihhjldkopfhaaRkA
namespace Go.Proofs.Ytlihhjldkopfhaa
open Go.RowKit
open Asn (pt row rb)
set_option linter.unusedVariables false
set_option linter.unusedSimpArgs false
--@use N

set_option maxRecDepth 100000 in
set_option maxHeartbeats 4000000 in
theorem clone_any (w : World) (A : Option Addr) (n c : Nat) (xs : List Value) (h : Rd w All 1 A n xs) (h1 : ∀ v ∈ xs, v.oneCell' = true) (hn : n ≤ 1000) :
    Gives Try.prog 39 [.slice A n c] [] w (X := Option Addr × Nat) (fun x => .slice x.1 n x.2) (fun _ => True) (fun x => [row 3 1 x.1 n x.2 xs]) := by
  refine gives_S Try.func39 rfl Try.ntmps39 Try.results39 (by simp) (St.enter w) (fun B hB => ?_)
  cases hA : A with
  | none =>
    subst hA
    have hn0 : n = 0 := by
      rcases Nat.eq_zero_or_pos n with h0 | h0
      · exact h0
      · obtain ⟨ad, e, _⟩ := h.2 h0
        cases e
    subst hn0
    obtain rfl : xs = [] := List.eq_nil_of_length_eq_zero (by simpa using h.1)
    focus (refine S_seq rfl ?_; refine S_region rfl rfl ?_; refine R_p rfl ?_ rfl rfl; refine R_nil ?_; refine S_seq rfl ?_; refine S_seq rfl ?_; refine S_region rfl rfl ?_; refine R_p rfl ?_ rfl rfl; refine R_take (T_eqnil rfl rfl rfl rfl) ?_ rfl rfl; refine R_nil ?_; refine S_true rfl rfl ?_; refine S_seq rfl ?_; refine S_region rfl rfl ?_; refine R_p rfl ?_ rfl rfl; refine R_nil ?_)
    all_goals (try (exfalso; simp_all; done))
    refine hB _ _ _ _ _ rfl rfl fun w' hS => ⟨(none, 0), rfl, trivial, (hS.sublist (List.nil_sublist _)).nilrow _ _⟩
  | some ad =>
    subst hA
    focus (refine S_seq rfl ?_; refine S_region rfl rfl ?_; refine R_p rfl ?_ rfl rfl; refine R_nil ?_; refine S_seq rfl ?_; refine S_seq rfl ?_; refine S_region rfl rfl ?_; refine R_p rfl ?_ rfl rfl; refine R_take (T_eqnil rfl rfl rfl rfl) ?_ rfl rfl; refine R_nil ?_; refine S_false rfl rfl ?_; refine S_skip rfl ?_; refine S_seq rfl ?_; refine S_region rfl rfl ?_; (refine R_eff (E_lit1 (m := 0) (vs := []) rfl rfl rfl rfl rfl rfl rfl (by simp) (by decide)) ?_ rfl rfl; rintro _ _ ⟨bl, rfl, rfl⟩); refine R_p rfl ?_ rfl rfl; (refine R_eff (E_apple rfl rfl rfl rfl rfl rfl rfl (by decide) .here (Srd.old h (fun k _ => noOwns k)) h1 (by show n * 8 ≤ _; omega) (by unfold maxLen; omega)) ?_ rfl rfl; rintro _ _ ⟨A', c', rfl, rfl⟩); refine R_p rfl ?_ rfl rfl; refine R_nil ?_)
    all_goals (try (exfalso; simp_all; done))
    refine hB _ _ _ _ _ rfl rfl fun w' hS => ⟨(A', c'), rfl, trivial, hS⟩
theorem one_drop {xs : List Value} (h1 : ∀ v ∈ xs, v.oneCell' = true) (i : Nat) : ∀ v ∈ xs.drop i, v.oneCell' = true := fun v hv => h1 v (List.mem_of_mem_drop hv)
theorem part_at (xs ys : List Value) (i : Nat) : ∀ j v, (xs.drop i)[j]? = some v → (xs ++ ys)[0 + i * 1 + j]? = some v := fun j v hj => by
  rw [List.getElem?_drop] at hj
  have hl := (List.getElem?_eq_some_iff.1 hj).1
  rw [Nat.zero_add, Nat.mul_one, List.getElem?_append_left hl]
  exact hj
set_option maxRecDepth 100000 in
set_option maxHeartbeats 4000000 in
theorem insert_any (w : World) (A : Option Addr) (m c vb i : Nat) (xs : List Value) (v : Value) (hi : i ≤ m) (hm : m ≤ 1000) (h1 : ∀ v ∈ xs, v.oneCell' = true) (hv1 : v.oneCell' = true)
    (hS : St w (owns [row 3 1 A m c xs, pt vb 3 [v]]) [row 3 1 A m c xs, pt vb 3 [v]] w) :
    Gives Try.prog 38 [.slice A m c, .int .i64 (i : Int), .slice (some ⟨vb, 0, none⟩) 1 1] [row 3 1 A m c xs, pt vb 3 [v]] w (X := Option Addr × Nat) (fun x => .slice x.1 (m + 1) x.2) (fun _ => True) (fun x => [row 3 1 x.1 (m + 1) x.2 (xs.take i ++ v :: xs.drop i)]) := by
  refine gives_S Try.func38 rfl Try.ntmps38 Try.results38 (by simp) hS (fun B hB => ?_)
  refine RS_row A m c fun hmc hcm hne hxl => ?_
  have hxl' : xs.length = m := by simpa using hxl
  rcases Nat.lt_or_ge i m with him | him
  · rcases Nat.lt_or_ge m c with hroom | hroom
    · refine RS_open A m c (hne (by omega)) fun gb ys hA hyl _ _ _ => ?_
      subst hA
      have hyl' : ys.length = c - m := by simpa using hyl
      refine RS_fact (p := vb ≠ gb) (fun w hS => fun e => ?_) fun hvg => ?_
      · subst e
        exact (List.pairwise_cons.1 hS.apart).1 (pt vb 3 [v]) (by simp) vb rfl rfl
      focus (refine S_seq rfl ?_; refine S_region rfl rfl ?_; refine R_p rfl ?_ rfl rfl; refine R_nil ?_; refine S_seq rfl ?_; refine S_region rfl rfl ?_; refine R_p rfl ?_ rfl rfl; refine R_p rfl ?_ rfl rfl; refine R_take (T_sllg (sz := 1) rfl rfl rfl rfl rfl rfl (by omega) (by omega) (by omega)) ?_ rfl rfl; refine R_nil ?_; refine S_seq rfl ?_; refine S_region rfl rfl ?_; refine R_p rfl ?_ rfl rfl; refine R_p rfl ?_ rfl rfl; refine R_p rfl ?_ rfl rfl; refine R_nil ?_; refine S_seq rfl ?_; refine S_seq rfl ?_; refine S_region rfl rfl ?_; refine R_p rfl ?_ rfl rfl; refine R_take (T_decF rfl (by omega)) ?_ rfl rfl; refine R_nil ?_; refine S_false rfl rfl ?_; refine S_skip rfl ?_; refine S_seq rfl ?_; refine S_region rfl rfl ?_; refine R_p rfl ?_ rfl rfl; refine R_p rfl ?_ rfl rfl; refine R_p rfl ?_ rfl rfl; refine R_nil ?_; refine S_seq rfl ?_; refine S_seq rfl ?_; refine S_region rfl rfl ?_; refine R_p rfl ?_ rfl rfl; refine R_p rfl ?_ rfl rfl; refine R_take (T_decF rfl (by omega)) ?_ rfl rfl; refine R_nil ?_; refine S_false rfl rfl ?_; refine S_skip rfl ?_; refine S_seq rfl ?_; refine S_seq rfl ?_; refine S_region rfl rfl ?_; refine R_p rfl ?_ rfl rfl; refine R_p rfl ?_ rfl rfl; refine R_take (T_addN rfl rfl (by unfold fits; omega)) ?_ rfl rfl; refine R_p rfl ?_ rfl rfl; refine R_take (T_cap rfl rfl rfl) ?_ rfl rfl; refine R_take (T_decF rfl (by omega)) ?_ rfl rfl; refine R_nil ?_; refine S_false rfl rfl ?_; refine S_skip rfl ?_; refine S_seq rfl ?_; refine S_region rfl rfl ?_; refine R_p rfl ?_ rfl rfl; refine R_p rfl ?_ rfl rfl; refine R_p rfl ?_ rfl rfl; refine R_take (T_addN rfl rfl (by unfold fits; omega)) ?_ rfl rfl; refine R_take (T_slhN rfl rfl rfl rfl rfl (by omega)) ?_ rfl rfl; refine R_p rfl ?_ rfl rfl; refine R_nil ?_; refine S_seq rfl ?_; refine S_seq rfl ?_; refine S_region rfl rfl ?_; refine R_p rfl ?_ rfl rfl; refine R_p rfl ?_ rfl rfl; refine R_p rfl ?_ rfl rfl; refine R_p rfl ?_ rfl rfl; refine R_take (T_addN rfl rfl (by unfold fits; omega)) ?_ rfl rfl; refine R_take (T_sllg (sz := 1) rfl rfl rfl rfl rfl rfl (by omega) (by omega) (by omega)) ?_ rfl rfl; (refine R_eff (E_over (f := 50) (fn := Try.f50) (s := 22) (b := 4) Try.func50 (by kernel_rfl) (by kernel_rfl) (by kernel_rfl) (by kernel_rfl) rfl rfl rfl rfl rfl inferInstance inferInstance hvg (by rw [List.length_append]; omega)) ?_ rfl rfl; rintro _ _ ⟨rfl, rfl⟩); refine R_take (T_not rfl) ?_ rfl rfl; refine R_nil ?_; refine S_true rfl rfl ?_; refine S_seq rfl ?_)
      refine S_draw ([]) sub_st (by kernel_rfl) rfl (by kernel_rfl) (by kernel_rfl : _ = 9) ?_
      refine D_take 0 rfl (pev_ok rfl) ?_ rfl rfl (by kernel_rfl) (by kernel_rfl)
      refine D_take 1 rfl (pev_ok rfl) ?_ rfl rfl (by kernel_rfl) (by kernel_rfl)
      refine D_take 2 rfl (pev_ok rfl) ?_ rfl rfl (by kernel_rfl) (by kernel_rfl)
      (refine D_take 3 rfl (T_addN rfl rfl (by unfold fits; omega)) ?_ rfl rfl (by kernel_rfl) (by kernel_rfl))
      refine D_take 4 rfl (T_sllg (sz := 1) rfl rfl rfl rfl rfl rfl (by omega) (by omega) (by omega)) ?_ rfl rfl (by kernel_rfl) (by kernel_rfl)
      refine D_take 5 rfl (pev_ok rfl) ?_ rfl rfl (by kernel_rfl) (by kernel_rfl)
      refine D_take 6 rfl (pev_ok rfl) ?_ rfl rfl (by kernel_rfl) (by kernel_rfl)
      refine D_take 7 rfl (T_sllg (sz := 1) rfl rfl rfl rfl rfl rfl (by omega) (by omega) (by omega)) ?_ rfl rfl (by kernel_rfl) (by kernel_rfl)
      refine D_one 8 rfl (E_copyn (q := m - i) (cs := xs.drop i) rfl rfl rfl rfl rfl (Srd.pt (by show _ = (m - i) * 1; rw [List.length_drop]; omega) (part_at xs ys i)) (by simp only [Nat.min_def]; split <;> omega) (by rw [List.length_append, List.length_drop]; omega) (one_drop h1 i) rfl) ?_ rfl rfl (by kernel_rfl)
      rintro _ _ ⟨rfl, rfl⟩
      refine Nx_same sub_st ?_
      refine D_done ?_ (by kernel_rfl)
      skip
      focus (refine S_seq rfl ?_; refine S_region rfl rfl ?_; refine R_p rfl ?_ rfl rfl; refine R_p rfl ?_ rfl rfl; refine R_take (T_sllg (sz := 1) rfl rfl rfl rfl rfl rfl (by omega) (by omega) (by omega)) ?_ rfl rfl; refine R_p rfl ?_ rfl rfl; (refine R_eff (E_copyn (q := 1) (cs := [v]) rfl rfl rfl rfl rfl (Srd.pt (g := vb) rfl (fun j u hj => by rw [Nat.zero_add]; exact hj)) (by simp only [Nat.min_def]; split <;> omega) (by simp; omega) (by simpa using hv1) rfl) ?_ rfl rfl; rintro _ _ ⟨rfl, rfl⟩); refine R_nil ?_; refine S_seq rfl ?_; refine S_region rfl rfl ?_; refine R_p rfl ?_ rfl rfl; refine R_p rfl ?_ rfl rfl; refine R_nil ?_)
      refine hB _ _ _ _ _ rfl rfl fun w' hS => ⟨(some ⟨gb, 0, none⟩, c), rfl, trivial, ?_⟩
      refine (hS.close (m := m + 1) (c := c) (size := 1) (gb := gb) (e := 3) (xs := xs.take i ++ v :: xs.drop i) (by omega) hcm ?_ ?_).sublist (by simp)
      · simp only [List.length_append, List.length_take, List.length_drop, List.length_cons, List.length_nil]; omega
      simp only [Nat.zero_add, Nat.mul_one]
      exact ins_shift xs ys v i m hxl' him (by omega) _
    · skip
      focus (refine S_seq rfl ?_; refine S_region rfl rfl ?_; refine R_p rfl ?_ rfl rfl; refine R_nil ?_; refine S_seq rfl ?_; refine S_region rfl rfl ?_; refine R_p rfl ?_ rfl rfl; refine R_p rfl ?_ rfl rfl; refine R_take (T_slN rfl rfl rfl rfl rfl rfl (by omega) (by omega)) ?_ rfl rfl; refine R_nil ?_; refine S_seq rfl ?_; refine S_region rfl rfl ?_; refine R_p rfl ?_ rfl rfl; refine R_p rfl ?_ rfl rfl; refine R_p rfl ?_ rfl rfl; refine R_nil ?_; refine S_seq rfl ?_; refine S_seq rfl ?_; refine S_region rfl rfl ?_; refine R_p rfl ?_ rfl rfl; refine R_take (T_decF rfl (by omega)) ?_ rfl rfl; refine R_nil ?_; refine S_false rfl rfl ?_; refine S_skip rfl ?_; refine S_seq rfl ?_; refine S_region rfl rfl ?_; refine R_p rfl ?_ rfl rfl; refine R_p rfl ?_ rfl rfl; refine R_p rfl ?_ rfl rfl; refine R_nil ?_; refine S_seq rfl ?_; refine S_seq rfl ?_; refine S_region rfl rfl ?_; refine R_p rfl ?_ rfl rfl; refine R_p rfl ?_ rfl rfl; refine R_take (T_decF rfl (by omega)) ?_ rfl rfl; refine R_nil ?_; refine S_false rfl rfl ?_; refine S_skip rfl ?_; refine S_seq rfl ?_; refine S_seq rfl ?_; refine S_region rfl rfl ?_; refine R_p rfl ?_ rfl rfl; refine R_p rfl ?_ rfl rfl; refine R_take (T_addN rfl rfl (by unfold fits; omega)) ?_ rfl rfl; refine R_p rfl ?_ rfl rfl; refine R_take (T_cap rfl rfl rfl) ?_ rfl rfl; refine R_take (T_decT rfl (by omega)) ?_ rfl rfl; refine R_nil ?_; refine S_true rfl rfl ?_; refine S_seq rfl ?_; refine S_region rfl rfl ?_; refine R_p rfl ?_ rfl rfl; refine R_p rfl ?_ rfl rfl; refine R_take (T_slhN rfl rfl rfl rfl rfl (by omega)) ?_ rfl rfl; refine R_p rfl ?_ rfl rfl; refine R_p rfl ?_ rfl rfl; refine R_take (T_addN rfl rfl (by unfold fits; omega)) ?_ rfl rfl; refine R_p rfl ?_ rfl rfl; refine R_take (T_subN rfl rfl (by omega) (by unfold fits; omega)) ?_ rfl rfl; (refine R_eff (E_appz (sz := 1) (q := m + 1 - i) rfl rfl rfl rfl rfl rfl rfl rfl rfl (by decide) ((Srd.row (n := m) (c := c)).head (by omega)) (by omega) (by omega) (by show (i + (m + 1 - i)) * 8 ≤ _; omega) (by unfold maxLen; omega)) ?_ rfl rfl; rintro _ _ ⟨g2, cc2, zs, ys, rfl, hzs, hyl, hmc2, hcm2, rfl⟩); refine R_p rfl ?_ rfl rfl; refine R_nil ?_; refine S_seq rfl ?_; refine S_region rfl rfl ?_; refine R_p rfl ?_ rfl rfl; refine R_p rfl ?_ rfl rfl; refine R_take (T_sllg (sz := 1) rfl rfl rfl rfl rfl rfl (by omega) (by omega) (by omega)) ?_ rfl rfl; refine R_p rfl ?_ rfl rfl; (refine R_eff (E_copyn (q := 1) (cs := [v]) rfl rfl rfl rfl rfl (Srd.pt (g := vb) rfl (fun j u hj => by rw [Nat.zero_add]; exact hj)) (by simp only [Nat.min_def]; split <;> omega) (by simp; omega) (by simpa using hv1) rfl) ?_ rfl rfl; rintro _ _ ⟨rfl, rfl⟩); refine R_nil ?_; refine S_seq rfl ?_)
      have hzs' : zs.length = m + 1 - i := by rw [hzs, Nat.mul_one]
      have hyl' : ys.length = cc2 - (m + 1) := by rw [hyl, Nat.mul_one]; omega
      refine S_draw ([]) sub_st (by kernel_rfl) rfl (by kernel_rfl) (by kernel_rfl : _ = 9) ?_
      refine D_take 0 rfl (pev_ok rfl) ?_ rfl rfl (by kernel_rfl) (by kernel_rfl)
      refine D_take 1 rfl (pev_ok rfl) ?_ rfl rfl (by kernel_rfl) (by kernel_rfl)
      refine D_take 2 rfl (pev_ok rfl) ?_ rfl rfl (by kernel_rfl) (by kernel_rfl)
      (refine D_take 3 rfl (T_addN rfl rfl (by unfold fits; omega)) ?_ rfl rfl (by kernel_rfl) (by kernel_rfl))
      refine D_take 4 rfl (T_sllg (sz := 1) rfl rfl rfl rfl rfl rfl (by omega) (by omega) (by omega)) ?_ rfl rfl (by kernel_rfl) (by kernel_rfl)
      refine D_take 5 rfl (pev_ok rfl) ?_ rfl rfl (by kernel_rfl) (by kernel_rfl)
      refine D_take 6 rfl (pev_ok rfl) ?_ rfl rfl (by kernel_rfl) (by kernel_rfl)
      refine D_take 7 rfl (T_slN rfl rfl rfl rfl rfl rfl (by omega) (by omega)) ?_ rfl rfl (by kernel_rfl) (by kernel_rfl)
      refine D_one 8 rfl (E_copyn (q := m - i) (cs := xs.drop (i * 1)) rfl rfl rfl rfl rfl ((Srd.row (n := m) (c := c)).cutP (by omega) (by omega)) (by simp only [Nat.min_def]; split <;> omega) (by simp; omega) (by rw [Nat.mul_one]; exact one_drop h1 i) rfl) ?_ rfl rfl (by kernel_rfl)
      rintro _ _ ⟨rfl, rfl⟩
      refine Nx_same sub_st ?_
      refine D_done ?_ (by kernel_rfl)
      skip
      focus (refine S_seq rfl ?_; refine S_region rfl rfl ?_; refine R_p rfl ?_ rfl rfl; refine R_p rfl ?_ rfl rfl; refine R_nil ?_)
      refine hB _ _ _ _ _ rfl rfl fun w' hS => ⟨(some ⟨g2, 0, none⟩, cc2), by simp only [retv]; congr 1; omega, trivial, ?_⟩
      refine (hS.close (m := m + 1) (c := cc2) (size := 1) (gb := g2) (e := 3) (xs := xs.take i ++ v :: xs.drop i) (by omega) hcm2 ?_ ?_).sublist (by simp)
      · simp only [List.length_append, List.length_take, List.length_drop, List.length_cons, List.length_nil]; omega
      simp only [Nat.zero_add, Nat.mul_one]
      exact ins_grow xs zs ys v i m hxl' him _ _
  · obtain rfl : i = m := by omega
    focus (refine S_seq rfl ?_; refine S_region rfl rfl ?_; refine R_p rfl ?_ rfl rfl; refine R_nil ?_; refine S_seq rfl ?_; refine S_region rfl rfl ?_; refine R_p rfl ?_ rfl rfl; refine R_p rfl ?_ rfl rfl; refine R_take (T_slN rfl rfl rfl rfl rfl rfl (by omega) (by omega)) ?_ rfl rfl; refine R_nil ?_; refine S_seq rfl ?_; refine S_region rfl rfl ?_; refine R_p rfl ?_ rfl rfl; refine R_p rfl ?_ rfl rfl; refine R_p rfl ?_ rfl rfl; refine R_nil ?_; refine S_seq rfl ?_; refine S_seq rfl ?_; refine S_region rfl rfl ?_; refine R_p rfl ?_ rfl rfl; refine R_take (T_decF rfl (by omega)) ?_ rfl rfl; refine R_nil ?_; refine S_false rfl rfl ?_; refine S_skip rfl ?_; refine S_seq rfl ?_; refine S_region rfl rfl ?_; refine R_p rfl ?_ rfl rfl; refine R_p rfl ?_ rfl rfl; refine R_p rfl ?_ rfl rfl; refine R_nil ?_; refine S_seq rfl ?_; refine S_seq rfl ?_; refine S_region rfl rfl ?_; refine R_p rfl ?_ rfl rfl; refine R_p rfl ?_ rfl rfl; refine R_take (T_decT rfl (by omega)) ?_ rfl rfl; refine R_nil ?_; refine S_true rfl rfl ?_; refine S_seq rfl ?_; refine S_region rfl rfl ?_; refine R_p rfl ?_ rfl rfl; refine R_p rfl ?_ rfl rfl; (refine R_eff (E_app1 rfl rfl rfl rfl rfl rfl rfl (Srd.pt (g := vb) (ds := [v]) rfl (fun j u hj => by rw [Nat.zero_add]; exact hj)) (by simpa using hv1) (by show (i + 1) * 8 ≤ _; omega) (by unfold maxLen; omega)) ?_ rfl rfl; rintro _ _ ⟨A2, cc2, rfl, rfl⟩); refine R_p rfl ?_ rfl rfl; refine R_nil ?_)
    refine hB _ _ _ _ _ rfl rfl fun w' hS => ⟨(A2, cc2), rfl, trivial, ?_⟩
    rw [List.take_of_length_le (by omega), List.drop_eq_nil_of_le (by omega)]
    exact hS.sublist (by simp)
set_option maxRecDepth 100000 in
set_option maxHeartbeats 4000000 in
theorem delete_any (w : World) (A : Option Addr) (m c i j : Nat) (xs : List Value) (hi : i < j) (hj : j ≤ m) (hm : m ≤ 1000) (h1 : ∀ v ∈ xs, v.oneCell' = true)
    (hS : St w (owns [row 3 1 A m c xs]) [row 3 1 A m c xs] w) :
    Gives Try.prog 40 [.slice A m c, .int .i64 (i : Int), .int .i64 (j : Int)] [row 3 1 A m c xs] w (X := Option Addr × Nat) (fun x => .slice x.1 (i + (m - j)) x.2) (fun _ => True) (fun x => [row 3 1 x.1 (i + (m - j)) x.2 (xs.take i ++ xs.drop j)]) := by
  refine gives_S Try.func40 rfl Try.ntmps40 Try.results40 (by simp) hS (fun B hB => ?_)
  refine RS_row A m c fun hmc hcm hne hxl => ?_
  have hxl' : xs.length = m := by simpa using hxl
  refine RS_open A m c (hne (by omega)) fun gb ys hA hyl _ _ _ => ?_
  subst hA
  have hyl' : ys.length = c - m := by simpa using hyl
  focus (refine S_seq rfl ?_; refine S_region rfl rfl ?_; refine R_p rfl ?_ rfl rfl; refine R_nil ?_; refine S_seq rfl ?_; refine S_region rfl rfl ?_; refine R_p rfl ?_ rfl rfl; refine R_p rfl ?_ rfl rfl; refine R_p rfl ?_ rfl rfl; refine R_p rfl ?_ rfl rfl; refine R_p rfl ?_ rfl rfl; refine R_take (T_slbm rfl rfl rfl rfl rfl rfl rfl rfl (by omega) (by omega) (by omega)) ?_ rfl rfl; refine R_nil ?_; refine S_seq rfl ?_; refine S_seq rfl ?_; refine S_region rfl rfl ?_; refine R_p rfl ?_ rfl rfl; refine R_p rfl ?_ rfl rfl; refine R_take (T_decF rfl (by omega)) ?_ rfl rfl; refine R_nil ?_; refine S_false rfl rfl ?_; refine S_skip rfl ?_; refine S_seq rfl ?_; refine S_region rfl rfl ?_; refine R_p rfl ?_ rfl rfl; refine R_p rfl ?_ rfl rfl; refine R_p rfl ?_ rfl rfl; refine R_nil ?_; refine S_seq rfl ?_)
  refine S_draw ([]) sub_st (by kernel_rfl) rfl (by kernel_rfl) (by kernel_rfl : _ = 8) ?_
  refine D_take 0 rfl (pev_ok rfl) ?_ rfl rfl (by kernel_rfl) (by kernel_rfl)
  refine D_take 1 rfl (pev_ok rfl) ?_ rfl rfl (by kernel_rfl) (by kernel_rfl)
  refine D_take 2 rfl (T_slhN rfl rfl rfl rfl rfl (by omega)) ?_ rfl rfl (by kernel_rfl) (by kernel_rfl)
  refine D_take 3 rfl (pev_ok rfl) ?_ rfl rfl (by kernel_rfl) (by kernel_rfl)
  refine D_take 4 rfl (pev_ok rfl) ?_ rfl rfl (by kernel_rfl) (by kernel_rfl)
  refine D_take 5 rfl (T_slN (sz := 1) rfl rfl rfl rfl rfl rfl (by omega) (by omega)) ?_ rfl rfl (by kernel_rfl) (by kernel_rfl)
  refine D_one 6 rfl (E_appin (sz := 1) (m2 := m - j) (news := xs.drop (j * 1)) rfl rfl rfl rfl rfl rfl (by first | exact ((Srd.pt (g := gb) (off := 0) (n := m) (ds := xs) (by rw [hxl']; omega) (fun q v hq => by rw [Nat.zero_add, List.getElem?_append_left (List.getElem?_eq_some_iff.1 hq).1]; exact hq)).cutP (by omega) (by omega))) (by rw [Nat.mul_one]; exact one_drop h1 j) (by omega) (by simp only [List.length_append, List.length_take, List.length_drop]; omega) rfl) ?_ rfl rfl (by kernel_rfl)
  rintro _ _ ⟨rfl, rfl⟩
  refine Nx_same sub_st ?_
  refine D_take 7 rfl (pev_ok rfl) ?_ rfl rfl (by kernel_rfl) (by kernel_rfl)
  refine D_done ?_ (by kernel_rfl)
  skip
  focus (refine S_seq rfl ?_; refine S_region rfl rfl ?_; refine R_p rfl ?_ rfl rfl; refine R_p rfl ?_ rfl rfl; refine R_p rfl ?_ rfl rfl; refine R_p rfl ?_ rfl rfl; refine R_take (T_slbg (sz := 1) rfl rfl rfl rfl rfl rfl rfl (by omega) (by omega) (by omega)) ?_ rfl rfl; (refine R_eff0 (E_clear (sz := 1) rfl rfl rfl rfl rfl rfl rfl (by simp only [List.length_append, List.length_take, List.length_drop]; omega)) ?_ rfl; rintro _ _ ⟨zs, -, hzs, rfl⟩); refine R_nil ?_; refine S_seq rfl ?_; refine S_region rfl rfl ?_; refine R_p rfl ?_ rfl rfl; refine R_p rfl ?_ rfl rfl; refine R_nil ?_)
  all_goals (try (exfalso; omega))
  refine hB _ _ _ _ _ rfl rfl fun w' hS => ⟨(some ⟨gb, 0, none⟩, c), rfl, trivial, ?_⟩
  refine (hS.close (m := i + (m - j)) (c := c) (size := 1) (gb := gb) (e := 3) (xs := xs.take i ++ xs.drop j) (by omega) hcm ?_ ?_)
  · simp only [List.length_append, List.length_take, List.length_drop, List.length_cons, List.length_nil]; omega
  · simp only [Nat.zero_add, Nat.mul_one]
    exact del_ xs ys zs i j m hxl' (by omega) hj _ _
end Go.Proofs.Ytlihhjldkopfhaa
