/- Rows of a map: slices.Clone, slices.Insert, slices.Delete. -/
import Derived.Test.YtebbnbddlnpldaaPm3
import Derived.Test.YtebbnbddlnpldaaRkA
namespace Go.Proofs.Ytebbnbddlnpldaa
open Go.RowKit
open Asn (pt row rb)
set_option linter.unusedVariables false
set_option linter.unusedSimpArgs false
--@use N

/-- append, elements of any size -/
theorem E_appS {P : Program} {n : Nat} {w0 : World} {M : Nat → Prop} {T : Slots} {H Hr : List Asn} {dd : Option Tmp} {tt : TypeId} {pos : String} {af : Array Edge} {g : Option (Nat × Bool)} [HasTab P] {sz : Nat} {x y : Operand} {s e : TypeId} {A A2 : Option Addr} {m c m2 c2 : Nat} {xs news : List Value} {i ei : Ti} (hx : oget T x = some (.slice A m c)) (hy : oget T y = some (.slice A2 m2 c2)) (hs : ty P s = some i) (hi : i.desc = .slice e) (he : ty P e = some ei) (hsz : ei.size = sz) (hz : ei.zero.cells.size = sz) (hz0 : 0 < sz)
    [hr : HRow H A m c e sz xs Hr] (hsrc : Srd w0 M H sz A2 m2 news) (h1 : ∀ u ∈ news, u.oneCell' = true) (hb : (m + m2) * ei.bytes ≤ 140737488355328) (hm : m + m2 ≤ maxLen) :
    Ef P n w0 M T H ⟨dd, .call ⟨.builtin .append, #[x, y], #[s, s]⟩, tt, pos, af, g⟩ (fun v H' => ∃ A' c', v = .slice A' (m + m2) c' ∧ H' = row e sz A' (m + m2) c' (xs ++ news) :: Hr) := by
  subst hsz
  exact E_app hx hy hs hi he hz hz0 hsrc h1 hb hm
theorem insM_shift {α} (xs ys vs : List α) (i s m : Nat) (hx : xs.length = m) (hv : vs.length = s) (hi : i + s ≤ m + ys.length) (hi2 : i ≤ m) (R : List α) :
    ((((xs ++ ys).take (i + s) ++ xs.drop i ++ R).take i ++ vs ++ ((xs ++ ys).take (i + s) ++ xs.drop i ++ R).drop (i + s))).take (m + s) = xs.take i ++ vs ++ xs.drop i := by
  have h1 : ((xs ++ ys).take (i + s)).length = i + s := by simp; omega
  have h2 : ((xs ++ ys).take (i + s) ++ xs.drop i ++ R).take i = xs.take i := by
    rw [List.append_assoc, List.take_append_of_le_length (by omega), List.take_take, List.take_append_of_le_length (by omega)]
    congr 1; omega
  have h3 : ((xs ++ ys).take (i + s) ++ xs.drop i ++ R).drop (i + s) = xs.drop i ++ R := by
    rw [List.append_assoc, List.drop_left' h1]
  rw [h2, h3]
  have h4 : xs.take i ++ vs ++ (xs.drop i ++ R) = (xs.take i ++ vs ++ xs.drop i) ++ R := by simp
  rw [h4, List.take_left' (by simp; omega)]
theorem insM_grow {α} (xs zs ys vs : List α) (i s m : Nat) (hx : xs.length = m) (hv : vs.length = s) (hi : i ≤ m) (R Q : List α) :
    (((xs.take i ++ zs ++ ys).take i ++ vs ++ R).take (i + s) ++ xs.drop i ++ Q).take (m + s) = xs.take i ++ vs ++ xs.drop i := by
  have h2 : ((xs.take i ++ zs ++ ys)).take i = xs.take i := by
    rw [List.append_assoc, List.take_left' (by simp; omega)]
  rw [h2, List.take_left' (l₁ := xs.take i ++ vs) (by simp; omega)]
  have h4 : xs.take i ++ vs ++ xs.drop i ++ Q = (xs.take i ++ vs ++ xs.drop i) ++ Q := by simp
  rw [h4, List.take_left' (by simp; omega)]
set_option maxRecDepth 100000 in
set_option maxHeartbeats 4000000 in
theorem clone_any (w : World) (A : Option Addr) (n c : Nat) (xs : List Value) (h : Rd w All 2 A n xs) (h1 : ∀ v ∈ xs, v.oneCell' = true) (hn : n ≤ 1000) :
    Gives Try.prog 29 [.slice A n c] [] w (X := Option Addr × Nat) (fun x => .slice x.1 n x.2) (fun _ => True) (fun x => [row 56 2 x.1 n x.2 xs]) := by
  refine gives_S Try.func29 rfl Try.ntmps29 Try.results29 (by simp) (St.enter w) (fun B hB => ?_)
  cases hA : A with
  | none =>
    subst hA
    have hn0 : n = 0 := by
      rcases Nat.eq_zero_or_pos n with h0 | h0
      · exact h0
      · obtain ⟨ad, e, _⟩ := h.2 h0
        cases e
    subst hn0
    obtain rfl : xs = [] := List.eq_nil_of_length_eq_zero (by simpa using h.1)
    focus (refine S_seq rfl ?_; refine S_region rfl rfl ?_; refine R_p rfl ?_ rfl rfl; refine R_nil ?_; refine S_seq rfl ?_; refine S_seq rfl ?_; refine S_region rfl rfl ?_; refine R_p rfl ?_ rfl rfl; refine R_take (T_eqnil rfl rfl rfl rfl) ?_ rfl rfl; refine R_nil ?_; refine S_true rfl rfl ?_; refine S_seq rfl ?_; refine S_region rfl rfl ?_; refine R_p rfl ?_ rfl rfl; refine R_nil ?_)
    all_goals (try (exfalso; simp_all; done))
    refine hB _ _ _ _ _ rfl rfl fun w' hS => ⟨(none, 0), rfl, trivial, (hS.sublist (List.nil_sublist _)).nilrow _ _⟩
  | some ad =>
    subst hA
    focus (refine S_seq rfl ?_; refine S_region rfl rfl ?_; refine R_p rfl ?_ rfl rfl; refine R_nil ?_; refine S_seq rfl ?_; refine S_seq rfl ?_; refine S_region rfl rfl ?_; refine R_p rfl ?_ rfl rfl; refine R_take (T_eqnil rfl rfl rfl rfl) ?_ rfl rfl; refine R_nil ?_; refine S_false rfl rfl ?_; refine S_skip rfl ?_; refine S_seq rfl ?_; refine S_region rfl rfl ?_; (refine R_eff (E_litS (vs := []) (size := 2) (ds := []) rfl rfl rfl rfl rfl rfl (by simp) rfl (by omega)) ?_ rfl rfl; rintro _ _ ⟨bl, rfl, rfl⟩); refine R_p rfl ?_ rfl rfl; (refine R_eff (E_apple rfl rfl rfl rfl rfl rfl rfl (by decide) .here (Srd.old h (fun k _ => noOwns k)) h1 (by show n * 32 ≤ _; omega) (by unfold maxLen; omega)) ?_ rfl rfl; rintro _ _ ⟨A', c', rfl, rfl⟩); refine R_p rfl ?_ rfl rfl; refine R_nil ?_)
    all_goals (try (exfalso; simp_all; done))
    refine hB _ _ _ _ _ rfl rfl fun w' hS => ⟨(A', c'), rfl, trivial, hS⟩
theorem one_drop {xs : List Value} (h1 : ∀ v ∈ xs, v.oneCell' = true) (i : Nat) : ∀ v ∈ xs.drop i, v.oneCell' = true := fun v hv => h1 v (List.mem_of_mem_drop hv)
theorem part_at (xs ys : List Value) (i : Nat) : ∀ j v, (xs.drop i)[j]? = some v → (xs ++ ys)[0 + i + j]? = some v := fun j v hj => by
  rw [List.getElem?_drop] at hj
  have hl := (List.getElem?_eq_some_iff.1 hj).1
  rw [Nat.zero_add, List.getElem?_append_left hl]
  exact hj
set_option maxRecDepth 100000 in
set_option maxHeartbeats 4000000 in
theorem insert_any (w : World) (A : Option Addr) (m c vb i : Nat) (xs vs : List Value) (hi : i ≤ m) (hm : m ≤ 1000) (h1 : ∀ v ∈ xs, v.oneCell' = true) (hv1 : ∀ v ∈ vs, v.oneCell' = true) (hvl : vs.length = 2)
    (hS : St w (owns [row 56 2 A m c xs, pt vb 56 vs]) [row 56 2 A m c xs, pt vb 56 vs] w) :
    Gives Try.prog 34 [.slice A m c, .int .i64 (i : Int), .slice (some ⟨vb, 0, none⟩) 1 1] [row 56 2 A m c xs, pt vb 56 vs] w (X := Option Addr × Nat) (fun x => .slice x.1 (m + 1) x.2) (fun _ => True) (fun x => [row 56 2 x.1 (m + 1) x.2 (xs.take (i * 2) ++ vs ++ xs.drop (i * 2))]) := by
  refine gives_S Try.func34 rfl Try.ntmps34 Try.results34 (by simp) hS (fun B hB => ?_)
  refine RS_row A m c fun hmc hcm hne hxl => ?_
  rcases Nat.lt_or_ge i m with him | him
  · rcases Nat.lt_or_ge m c with hroom | hroom
    · refine RS_open A m c (hne (by omega)) fun gb ys hA hyl _ _ _ => ?_
      subst hA
      refine RS_fact (p := vb ≠ gb) (fun w hS => fun e => ?_) fun hvg => ?_
      · subst e
        exact (List.pairwise_cons.1 hS.apart).1 (pt vb 56 vs) (by simp) vb rfl rfl
      focus (refine S_seq rfl ?_; refine S_region rfl rfl ?_; refine R_p rfl ?_ rfl rfl; refine R_nil ?_; refine S_seq rfl ?_; refine S_region rfl rfl ?_; refine R_p rfl ?_ rfl rfl; refine R_p rfl ?_ rfl rfl; refine R_take (T_sllg (sz := 2) rfl rfl rfl rfl rfl rfl (by omega) (by omega) (by omega)) ?_ rfl rfl; refine R_nil ?_; refine S_seq rfl ?_; refine S_region rfl rfl ?_; refine R_p rfl ?_ rfl rfl; refine R_p rfl ?_ rfl rfl; refine R_p rfl ?_ rfl rfl; refine R_nil ?_; refine S_seq rfl ?_; refine S_seq rfl ?_; refine S_region rfl rfl ?_; refine R_p rfl ?_ rfl rfl; refine R_take (T_decF rfl (by omega)) ?_ rfl rfl; refine R_nil ?_; refine S_false rfl rfl ?_; refine S_skip rfl ?_; refine S_seq rfl ?_; refine S_region rfl rfl ?_; refine R_p rfl ?_ rfl rfl; refine R_p rfl ?_ rfl rfl; refine R_p rfl ?_ rfl rfl; refine R_nil ?_; refine S_seq rfl ?_; refine S_seq rfl ?_; refine S_region rfl rfl ?_; refine R_p rfl ?_ rfl rfl; refine R_p rfl ?_ rfl rfl; refine R_take (T_decF rfl (by omega)) ?_ rfl rfl; refine R_nil ?_; refine S_false rfl rfl ?_; refine S_skip rfl ?_; refine S_seq rfl ?_; refine S_seq rfl ?_; refine S_region rfl rfl ?_; refine R_p rfl ?_ rfl rfl; refine R_p rfl ?_ rfl rfl; refine R_take (T_addN rfl rfl (by unfold fits; omega)) ?_ rfl rfl; refine R_p rfl ?_ rfl rfl; refine R_take (T_cap rfl rfl rfl) ?_ rfl rfl; refine R_take (T_decF rfl (by omega)) ?_ rfl rfl; refine R_nil ?_; refine S_false rfl rfl ?_; refine S_skip rfl ?_; refine S_seq rfl ?_; refine S_region rfl rfl ?_; refine R_p rfl ?_ rfl rfl; refine R_p rfl ?_ rfl rfl; refine R_p rfl ?_ rfl rfl; refine R_take (T_addN rfl rfl (by unfold fits; omega)) ?_ rfl rfl; refine R_take (T_slhN rfl rfl rfl rfl rfl (by omega)) ?_ rfl rfl; refine R_p rfl ?_ rfl rfl; refine R_nil ?_; refine S_seq rfl ?_; refine S_seq rfl ?_; refine S_region rfl rfl ?_; refine R_p rfl ?_ rfl rfl; refine R_p rfl ?_ rfl rfl; refine R_p rfl ?_ rfl rfl; refine R_p rfl ?_ rfl rfl; refine R_take (T_addN rfl rfl (by unfold fits; omega)) ?_ rfl rfl; refine R_take (T_sllg (sz := 2) rfl rfl rfl rfl rfl rfl (by omega) (by omega) (by omega)) ?_ rfl rfl; (refine R_eff (E_over (f := 53) (fn := Try.f53) (s := 22) (b := 4) Try.func53 (by kernel_rfl) (by kernel_rfl) (by kernel_rfl) (by kernel_rfl) rfl rfl rfl rfl rfl inferInstance inferInstance hvg (by rw [List.length_append]; omega)) ?_ rfl rfl; rintro _ _ ⟨rfl, rfl⟩); refine R_take (T_not rfl) ?_ rfl rfl; refine R_nil ?_; refine S_true rfl rfl ?_; refine S_seq rfl ?_)
      refine S_draw ([]) sub_st (by kernel_rfl) rfl (by kernel_rfl) (by kernel_rfl : _ = 9) ?_
      refine D_take 0 rfl (pev_ok rfl) ?_ rfl rfl (by kernel_rfl) (by kernel_rfl)
      refine D_take 1 rfl (pev_ok rfl) ?_ rfl rfl (by kernel_rfl) (by kernel_rfl)
      refine D_take 2 rfl (pev_ok rfl) ?_ rfl rfl (by kernel_rfl) (by kernel_rfl)
      (refine D_take 3 rfl (T_addN rfl rfl (by unfold fits; omega)) ?_ rfl rfl (by kernel_rfl) (by kernel_rfl))
      refine D_take 4 rfl (T_sllg (sz := 2) rfl rfl rfl rfl rfl rfl (by omega) (by omega) (by omega)) ?_ rfl rfl (by kernel_rfl) (by kernel_rfl)
      refine D_take 5 rfl (pev_ok rfl) ?_ rfl rfl (by kernel_rfl) (by kernel_rfl)
      refine D_take 6 rfl (pev_ok rfl) ?_ rfl rfl (by kernel_rfl) (by kernel_rfl)
      refine D_take 7 rfl (T_sllg (sz := 2) rfl rfl rfl rfl rfl rfl (by omega) (by omega) (by omega)) ?_ rfl rfl (by kernel_rfl) (by kernel_rfl)
      refine D_one 8 rfl (E_copyn (q := m - i) (cs := xs.drop (i * 2)) rfl rfl rfl rfl rfl (Srd.pt (by show _ = (m - i) * 2; rw [List.length_drop]; omega) (part_at xs ys (i * 2))) (by simp only [Nat.min_def]; split <;> omega) (by rw [List.length_append, List.length_drop]; omega) (one_drop h1 (i * 2)) rfl) ?_ rfl rfl (by kernel_rfl)
      rintro _ _ ⟨rfl, rfl⟩
      refine Nx_same sub_st ?_
      refine D_done ?_ (by kernel_rfl)
      skip
      focus (refine S_seq rfl ?_; refine S_region rfl rfl ?_; refine R_p rfl ?_ rfl rfl; refine R_p rfl ?_ rfl rfl; refine R_take (T_sllg (sz := 2) rfl rfl rfl rfl rfl rfl (by omega) (by omega) (by omega)) ?_ rfl rfl; refine R_p rfl ?_ rfl rfl; (refine R_eff (E_copyn (q := 1) (cs := vs) rfl rfl rfl rfl rfl (Srd.pt (g := vb) hvl (fun j u hj => by rw [Nat.zero_add]; exact hj)) (by simp only [Nat.min_def]; split <;> omega) (by simp; omega) hv1 rfl) ?_ rfl rfl; rintro _ _ ⟨rfl, rfl⟩); refine R_nil ?_; refine S_seq rfl ?_; refine S_region rfl rfl ?_; refine R_p rfl ?_ rfl rfl; refine R_p rfl ?_ rfl rfl; refine R_nil ?_)
      refine hB _ _ _ _ _ rfl rfl fun w' hS => ⟨(some ⟨gb, 0, none⟩, c), rfl, trivial, ?_⟩
      refine (hS.close (m := m + 1) (c := c) (size := 2) (gb := gb) (e := 56) (xs := xs.take (i * 2) ++ vs ++ xs.drop (i * 2)) (by omega) hcm ?_ ?_).sublist (by simp)
      · simp only [List.length_append, List.length_take, List.length_drop, List.length_cons, List.length_nil]; omega
      simp only [Nat.zero_add, Nat.add_mul, Nat.one_mul, hvl, ← Nat.add_assoc]
      exact insM_shift xs ys vs (i * 2) 2 (m * 2) hxl hvl (by omega) (by omega) _
    · skip
      focus (refine S_seq rfl ?_; refine S_region rfl rfl ?_; refine R_p rfl ?_ rfl rfl; refine R_nil ?_; refine S_seq rfl ?_; refine S_region rfl rfl ?_; refine R_p rfl ?_ rfl rfl; refine R_p rfl ?_ rfl rfl; refine R_take (T_slN rfl rfl rfl rfl rfl rfl (by omega) (by omega)) ?_ rfl rfl; refine R_nil ?_; refine S_seq rfl ?_; refine S_region rfl rfl ?_; refine R_p rfl ?_ rfl rfl; refine R_p rfl ?_ rfl rfl; refine R_p rfl ?_ rfl rfl; refine R_nil ?_; refine S_seq rfl ?_; refine S_seq rfl ?_; refine S_region rfl rfl ?_; refine R_p rfl ?_ rfl rfl; refine R_take (T_decF rfl (by omega)) ?_ rfl rfl; refine R_nil ?_; refine S_false rfl rfl ?_; refine S_skip rfl ?_; refine S_seq rfl ?_; refine S_region rfl rfl ?_; refine R_p rfl ?_ rfl rfl; refine R_p rfl ?_ rfl rfl; refine R_p rfl ?_ rfl rfl; refine R_nil ?_; refine S_seq rfl ?_; refine S_seq rfl ?_; refine S_region rfl rfl ?_; refine R_p rfl ?_ rfl rfl; refine R_p rfl ?_ rfl rfl; refine R_take (T_decF rfl (by omega)) ?_ rfl rfl; refine R_nil ?_; refine S_false rfl rfl ?_; refine S_skip rfl ?_; refine S_seq rfl ?_; refine S_seq rfl ?_; refine S_region rfl rfl ?_; refine R_p rfl ?_ rfl rfl; refine R_p rfl ?_ rfl rfl; refine R_take (T_addN rfl rfl (by unfold fits; omega)) ?_ rfl rfl; refine R_p rfl ?_ rfl rfl; refine R_take (T_cap rfl rfl rfl) ?_ rfl rfl; refine R_take (T_decT rfl (by omega)) ?_ rfl rfl; refine R_nil ?_; refine S_true rfl rfl ?_; refine S_seq rfl ?_; refine S_region rfl rfl ?_; refine R_p rfl ?_ rfl rfl; refine R_p rfl ?_ rfl rfl; refine R_take (T_slhN rfl rfl rfl rfl rfl (by omega)) ?_ rfl rfl; refine R_p rfl ?_ rfl rfl; refine R_p rfl ?_ rfl rfl; refine R_take (T_addN rfl rfl (by unfold fits; omega)) ?_ rfl rfl; refine R_p rfl ?_ rfl rfl; refine R_take (T_subN rfl rfl (by omega) (by unfold fits; omega)) ?_ rfl rfl; (refine R_eff (E_appz (sz := 2) (q := m + 1 - i) rfl rfl rfl rfl rfl rfl rfl rfl rfl (by decide) ((Srd.row (n := m) (c := c)).head (by omega)) (by omega) (by omega) (by show (i + (m + 1 - i)) * 32 ≤ _; omega) (by unfold maxLen; omega)) ?_ rfl rfl; rintro _ _ ⟨g2, cc2, zs, ys, rfl, hzs, hyl, hmc2, hcm2, rfl⟩); refine R_p rfl ?_ rfl rfl; refine R_nil ?_; refine S_seq rfl ?_; refine S_region rfl rfl ?_; refine R_p rfl ?_ rfl rfl; refine R_p rfl ?_ rfl rfl; refine R_take (T_sllg (sz := 2) rfl rfl rfl rfl rfl rfl (by omega) (by omega) (by omega)) ?_ rfl rfl; refine R_p rfl ?_ rfl rfl; (refine R_eff (E_copyn (q := 1) (cs := vs) rfl rfl rfl rfl rfl (Srd.pt (g := vb) hvl (fun j u hj => by rw [Nat.zero_add]; exact hj)) (by simp only [Nat.min_def]; split <;> omega) (by simp; omega) hv1 rfl) ?_ rfl rfl; rintro _ _ ⟨rfl, rfl⟩); refine R_nil ?_; refine S_seq rfl ?_)
      refine S_draw ([]) sub_st (by kernel_rfl) rfl (by kernel_rfl) (by kernel_rfl : _ = 9) ?_
      refine D_take 0 rfl (pev_ok rfl) ?_ rfl rfl (by kernel_rfl) (by kernel_rfl)
      refine D_take 1 rfl (pev_ok rfl) ?_ rfl rfl (by kernel_rfl) (by kernel_rfl)
      refine D_take 2 rfl (pev_ok rfl) ?_ rfl rfl (by kernel_rfl) (by kernel_rfl)
      (refine D_take 3 rfl (T_addN rfl rfl (by unfold fits; omega)) ?_ rfl rfl (by kernel_rfl) (by kernel_rfl))
      refine D_take 4 rfl (T_sllg (sz := 2) rfl rfl rfl rfl rfl rfl (by omega) (by omega) (by omega)) ?_ rfl rfl (by kernel_rfl) (by kernel_rfl)
      refine D_take 5 rfl (pev_ok rfl) ?_ rfl rfl (by kernel_rfl) (by kernel_rfl)
      refine D_take 6 rfl (pev_ok rfl) ?_ rfl rfl (by kernel_rfl) (by kernel_rfl)
      refine D_take 7 rfl (T_slN rfl rfl rfl rfl rfl rfl (by omega) (by omega)) ?_ rfl rfl (by kernel_rfl) (by kernel_rfl)
      refine D_one 8 rfl (E_copyn (q := m - i) (cs := xs.drop (i * 2)) rfl rfl rfl rfl rfl ((Srd.row (n := m) (c := c)).cutP (by omega) (by omega)) (by simp only [Nat.min_def]; split <;> omega) (by simp; omega) (one_drop h1 (i * 2)) rfl) ?_ rfl rfl (by kernel_rfl)
      rintro _ _ ⟨rfl, rfl⟩
      refine Nx_same sub_st ?_
      refine D_done ?_ (by kernel_rfl)
      skip
      focus (refine S_seq rfl ?_; refine S_region rfl rfl ?_; refine R_p rfl ?_ rfl rfl; refine R_p rfl ?_ rfl rfl; refine R_nil ?_)
      refine hB _ _ _ _ _ rfl rfl fun w' hS => ⟨(some ⟨g2, 0, none⟩, cc2), by simp only [retv]; congr 1; omega, trivial, ?_⟩
      refine (hS.close (m := m + 1) (c := cc2) (size := 2) (gb := g2) (e := 56) (xs := xs.take (i * 2) ++ vs ++ xs.drop (i * 2)) (by omega) hcm2 ?_ ?_).sublist (by simp)
      · simp only [List.length_append, List.length_take, List.length_drop, List.length_cons, List.length_nil]; omega
      simp only [Nat.zero_add, Nat.add_mul, Nat.one_mul, hvl, ← Nat.add_assoc]
      exact insM_grow xs zs ys vs (i * 2) 2 (m * 2) hxl hvl (by omega) _ _
  · obtain rfl : i = m := by omega
    focus (refine S_seq rfl ?_; refine S_region rfl rfl ?_; refine R_p rfl ?_ rfl rfl; refine R_nil ?_; refine S_seq rfl ?_; refine S_region rfl rfl ?_; refine R_p rfl ?_ rfl rfl; refine R_p rfl ?_ rfl rfl; refine R_take (T_slN rfl rfl rfl rfl rfl rfl (by omega) (by omega)) ?_ rfl rfl; refine R_nil ?_; refine S_seq rfl ?_; refine S_region rfl rfl ?_; refine R_p rfl ?_ rfl rfl; refine R_p rfl ?_ rfl rfl; refine R_p rfl ?_ rfl rfl; refine R_nil ?_; refine S_seq rfl ?_; refine S_seq rfl ?_; refine S_region rfl rfl ?_; refine R_p rfl ?_ rfl rfl; refine R_take (T_decF rfl (by omega)) ?_ rfl rfl; refine R_nil ?_; refine S_false rfl rfl ?_; refine S_skip rfl ?_; refine S_seq rfl ?_; refine S_region rfl rfl ?_; refine R_p rfl ?_ rfl rfl; refine R_p rfl ?_ rfl rfl; refine R_p rfl ?_ rfl rfl; refine R_nil ?_; refine S_seq rfl ?_; refine S_seq rfl ?_; refine S_region rfl rfl ?_; refine R_p rfl ?_ rfl rfl; refine R_p rfl ?_ rfl rfl; refine R_take (T_decT rfl (by omega)) ?_ rfl rfl; refine R_nil ?_; refine S_true rfl rfl ?_; refine S_seq rfl ?_; refine S_region rfl rfl ?_; refine R_p rfl ?_ rfl rfl; refine R_p rfl ?_ rfl rfl; (refine R_eff (E_appS (sz := 2) rfl rfl rfl rfl rfl rfl rfl (by decide) (Srd.pt (n := 1) (g := vb) (ds := vs) hvl (fun j u hj => by rw [Nat.zero_add]; exact hj)) hv1 (by show (i + 1) * 32 ≤ _; omega) (by unfold maxLen; omega)) ?_ rfl rfl; rintro _ _ ⟨A2, cc2, rfl, rfl⟩); refine R_p rfl ?_ rfl rfl; refine R_nil ?_)
    refine hB _ _ _ _ _ rfl rfl fun w' hS => ⟨(A2, cc2), rfl, trivial, ?_⟩
    rw [List.take_of_length_le (by omega), List.drop_eq_nil_of_le (by omega), List.append_nil]
    exact hS.sublist (by simp)
set_option maxRecDepth 100000 in
set_option maxHeartbeats 4000000 in
theorem delete_any (w : World) (A : Option Addr) (m c i j : Nat) (xs : List Value) (hi : i < j) (hj : j ≤ m) (hm : m ≤ 1000) (h1 : ∀ v ∈ xs, v.oneCell' = true)
    (hS : St w (owns [row 56 2 A m c xs]) [row 56 2 A m c xs] w) :
    Gives Try.prog 33 [.slice A m c, .int .i64 (i : Int), .int .i64 (j : Int)] [row 56 2 A m c xs] w (X := Option Addr × Nat) (fun x => .slice x.1 (i + (m - j)) x.2) (fun _ => True) (fun x => [row 56 2 x.1 (i + (m - j)) x.2 (xs.take (i * 2) ++ xs.drop (j * 2))]) := by
  refine gives_S Try.func33 rfl Try.ntmps33 Try.results33 (by simp) hS (fun B hB => ?_)
  refine RS_row A m c fun hmc hcm hne hxl => ?_
  refine RS_open A m c (hne (by omega)) fun gb ys hA hyl _ _ _ => ?_
  subst hA
  focus (refine S_seq rfl ?_; refine S_region rfl rfl ?_; refine R_p rfl ?_ rfl rfl; refine R_nil ?_; refine S_seq rfl ?_; refine S_region rfl rfl ?_; refine R_p rfl ?_ rfl rfl; refine R_p rfl ?_ rfl rfl; refine R_p rfl ?_ rfl rfl; refine R_p rfl ?_ rfl rfl; refine R_p rfl ?_ rfl rfl; refine R_take (T_slbm rfl rfl rfl rfl rfl rfl rfl rfl (by omega) (by omega) (by omega)) ?_ rfl rfl; refine R_nil ?_; refine S_seq rfl ?_; refine S_seq rfl ?_; refine S_region rfl rfl ?_; refine R_p rfl ?_ rfl rfl; refine R_p rfl ?_ rfl rfl; refine R_take (T_decF rfl (by omega)) ?_ rfl rfl; refine R_nil ?_; refine S_false rfl rfl ?_; refine S_skip rfl ?_; refine S_seq rfl ?_; refine S_region rfl rfl ?_; refine R_p rfl ?_ rfl rfl; refine R_p rfl ?_ rfl rfl; refine R_p rfl ?_ rfl rfl; refine R_nil ?_; refine S_seq rfl ?_)
  refine S_draw ([]) sub_st (by kernel_rfl) rfl (by kernel_rfl) (by kernel_rfl : _ = 8) ?_
  refine D_take 0 rfl (pev_ok rfl) ?_ rfl rfl (by kernel_rfl) (by kernel_rfl)
  refine D_take 1 rfl (pev_ok rfl) ?_ rfl rfl (by kernel_rfl) (by kernel_rfl)
  refine D_take 2 rfl (T_slhN rfl rfl rfl rfl rfl (by omega)) ?_ rfl rfl (by kernel_rfl) (by kernel_rfl)
  refine D_take 3 rfl (pev_ok rfl) ?_ rfl rfl (by kernel_rfl) (by kernel_rfl)
  refine D_take 4 rfl (pev_ok rfl) ?_ rfl rfl (by kernel_rfl) (by kernel_rfl)
  refine D_take 5 rfl (T_slN (sz := 2) rfl rfl rfl rfl rfl rfl (by omega) (by omega)) ?_ rfl rfl (by kernel_rfl) (by kernel_rfl)
  refine D_one 6 rfl (E_appin (sz := 2) (m2 := m - j) (news := xs.drop (j * 2)) rfl rfl rfl rfl rfl rfl (by first | exact ((Srd.pt (g := gb) (off := 0) (n := m) (ds := xs) hxl (fun q v hq => by rw [Nat.zero_add, List.getElem?_append_left (List.getElem?_eq_some_iff.1 hq).1]; exact hq)).cutP (by omega) (by omega))) (one_drop h1 (j * 2)) (by omega) (by simp only [List.length_append, List.length_take, List.length_drop]; omega) rfl) ?_ rfl rfl (by kernel_rfl)
  rintro _ _ ⟨rfl, rfl⟩
  refine Nx_same sub_st ?_
  refine D_take 7 rfl (pev_ok rfl) ?_ rfl rfl (by kernel_rfl) (by kernel_rfl)
  refine D_done ?_ (by kernel_rfl)
  skip
  focus (refine S_seq rfl ?_; refine S_region rfl rfl ?_; refine R_p rfl ?_ rfl rfl; refine R_p rfl ?_ rfl rfl; refine R_p rfl ?_ rfl rfl; refine R_p rfl ?_ rfl rfl; refine R_take (T_slbg (sz := 2) rfl rfl rfl rfl rfl rfl rfl (by omega) (by omega) (by omega)) ?_ rfl rfl; (refine R_eff0 (E_clear (sz := 2) rfl rfl rfl rfl rfl rfl rfl (by simp only [List.length_append, List.length_take, List.length_drop]; omega)) ?_ rfl; rintro _ _ ⟨zs, -, hzs, rfl⟩); refine R_nil ?_; refine S_seq rfl ?_; refine S_region rfl rfl ?_; refine R_p rfl ?_ rfl rfl; refine R_p rfl ?_ rfl rfl; refine R_nil ?_)
  all_goals (try (exfalso; omega))
  refine hB _ _ _ _ _ rfl rfl fun w' hS => ⟨(some ⟨gb, 0, none⟩, c), rfl, trivial, ?_⟩
  refine (hS.close (m := i + (m - j)) (c := c) (size := 2) (gb := gb) (e := 56) (xs := xs.take (i * 2) ++ xs.drop (j * 2)) (by omega) hcm ?_ ?_)
  · simp only [List.length_append, List.length_take, List.length_drop, List.length_cons, List.length_nil]; omega
  · simp only [Nat.zero_add, Nat.add_mul, Nat.sub_mul]
    exact del_ xs ys zs (i * 2) (j * 2) (m * 2) hxl (by omega) (by omega) _ _
end Go.Proofs.Ytebbnbddlnpldaa
