/- slices.Sort of numbers of 64 bits, where there are at most twelve. -/
import Derived.Test.YtlihhjldkopfhaaCoU
import Derived.Test.YtlihhjldkopfhaaRkE
namespace Go.Proofs.Ytlihhjldkopfhaa
open Go.RowKit
open Asn (pt row rb)
set_option linter.unusedVariables false
set_option linter.unusedSimpArgs false
--@use N

set_option maxRecDepth 100000 in
set_option maxHeartbeats 4000000 in
theorem nan64_any (w : World) (m : Nat) :
    Gives Try.prog 76 [uv m] [] w (X := Unit) (fun _ => .bool false) (fun _ => True) (fun _ => []) := by
  refine gives_S Try.func76 rfl Try.ntmps76 Try.results76 (by simp) (St.enter w) (fun B hB => ?_)
  focus (refine S_seq rfl ?_; refine S_region rfl rfl ?_; refine R_p rfl ?_ rfl rfl; refine R_nil ?_; refine S_seq rfl ?_; refine S_region rfl rfl ?_; refine R_p rfl ?_ rfl rfl; refine R_p rfl ?_ rfl rfl; refine R_take (T_decF rfl (by simp)) ?_ rfl rfl; refine R_p rfl ?_ rfl rfl; refine R_nil ?_)
  all_goals (refine hB _ _ _ _ _ rfl rfl fun w' hS => ⟨(), ?_, trivial, hS⟩)
  all_goals first | rfl | (simp; rfl)
section
variable {n : Nat} {w0 : World} {M : Nat → Prop} {T : Slots} {H Hr : List Asn} {dd : Option Tmp} {tt : TypeId} {pos : String} {af : Array Edge} {g : Option (Nat × Bool)} {x y z : Operand} {ts : Array TypeId}
theorem E_nan64 {a : Nat} (hx : oget T x = some (uv a)) :
    Ef Try.prog n w0 M T H ⟨dd, .call ⟨.value (.func 76), #[x], ts⟩, tt, pos, af, g⟩ (fun u H' => u = .bool false ∧ H' = H) := by
  refine (E_gv ⟨_, Try.func76, rfl, by kernel_rfl⟩ (vs := [uv a]) (by simp [ogets, hx]) fun w hS => nan64_any w a).mono ?_
  rintro v H' ⟨_, rfl, _, rfl⟩ w hS
  exact ⟨_, _, rfl, ⟨rfl, rfl⟩, hS⟩
end
set_option maxRecDepth 100000 in
set_option maxHeartbeats 4000000 in
theorem less64_any (w : World) (a b : Nat) :
    Gives Try.prog 64 [uv a, uv b] [] w (X := Unit) (fun _ => .bool (decide (a < b))) (fun _ => True) (fun _ => []) := by
  refine gives_S Try.func64 rfl Try.ntmps64 Try.results64 (by simp) (St.enter w) (fun B hB => ?_)
  focus (refine S_seq rfl ?_; refine S_region rfl rfl ?_; refine R_p rfl ?_ rfl rfl; refine R_nil ?_; refine S_seq rfl ?_; refine S_region rfl rfl ?_; refine R_p rfl ?_ rfl rfl; (refine R_eff (E_nan64 rfl) ?_ rfl rfl; rintro _ _ ⟨rfl, rfl⟩); refine R_p rfl ?_ rfl rfl; refine R_skip ?_ rfl rfl; refine R_skip ?_ rfl rfl; refine R_skip ?_ rfl rfl; refine R_p rfl ?_ rfl rfl; refine R_p rfl ?_ rfl rfl; refine R_p rfl ?_ rfl rfl; refine R_p rfl ?_ rfl rfl; refine R_p rfl ?_ rfl rfl; refine R_p rfl ?_ rfl rfl; refine R_p rfl ?_ rfl rfl; refine R_nil ?_)
  all_goals (refine hB _ _ _ _ _ rfl rfl fun w' hS => ⟨(), ?_, trivial, hS⟩)
  all_goals first | rfl | (show Value.bool _ = _; congr 1; exact decide_eq_decide.2 (by omega)) | (simp [*]; rfl)
section
variable {n : Nat} {w0 : World} {M : Nat → Prop} {T : Slots} {H Hr : List Asn} {dd : Option Tmp} {tt : TypeId} {pos : String} {af : Array Edge} {g : Option (Nat × Bool)} {x y z : Operand} {ts : Array TypeId}
theorem E_less64 {a b : Nat} {r : Bool} (hx : oget T x = some (uv a)) (hy : oget T y = some (uv b)) (hr : decide (a < b) = r) :
    Ef Try.prog n w0 M T H ⟨dd, .call ⟨.value (.func 64), #[x, y], ts⟩, tt, pos, af, g⟩ (fun u H' => u = .bool r ∧ H' = H) := by
  refine (E_gv ⟨_, Try.func64, rfl, by kernel_rfl⟩ (vs := [uv a, uv b]) (by simp [ogets, hx, hy]) fun w hS => less64_any w a b).mono ?_
  rintro v H' ⟨_, rfl, _, rfl⟩ w hS
  exact ⟨_, _, rfl, ⟨by rw [hr], rfl⟩, hS⟩
end
/-! two that change places -/
def swp (t : List Nat) (j : Nat) : List Nat := (t.set j (t.getD (j - 1) 0)).set (j - 1) (t.getD j 0)
theorem swp_len (t : List Nat) (j : Nat) : (swp t j).length = t.length := by simp [swp]
theorem swp_at {t : List Nat} {j : Nat} (h0 : 0 < j) (hj : j < t.length) (p : Nat) : (swp t j).getD p 0 = if p = j - 1 then t.getD j 0 else if p = j then t.getD (j - 1) 0 else t.getD p 0 := by
  simp only [swp, List.getD, List.getElem?_set, List.length_set]
  have hj1 : j - 1 < t.length := by omega
  by_cases h1 : j - 1 = p
  · subst h1
    simp [hj1]
  · by_cases h2 : j = p
    · subst h2
      have h3 : ¬ j = j - 1 := by omega
      simp [h1, h3, hj]
    · have h3 : ¬ p = j - 1 := by omega
      have h4 : ¬ p = j := by omega
      simp [h1, h2, h3, h4]
theorem swp_perm {t : List Nat} {j : Nat} (h0 : 0 < j) (hj : j < t.length) : (swp t j).Perm t := by
  have h := List.set_set_perm hj (show j - 1 < t.length by omega)
  simpa [swp, List.getD, hj, show j - 1 < t.length by omega] using h
theorem uv_at {s : List Nat} {j : Nat} (h : j < s.length) : (s.map uv)[j]? = some (uv (s.getD j 0)) := by
  simp [List.getD, h]
theorem sorted_of {s : List Nat} (h : ∀ p q, p < q → q < s.length → s.getD p 0 ≤ s.getD q 0) : s.Pairwise (· ≤ ·) := by
  rw [List.pairwise_iff_getElem]
  intro p q hp hq hpq
  have := h p q hpq hq
  simpa [List.getD, hp, hq] using this
set_option maxRecDepth 100000 in
set_option maxHeartbeats 4000000 in
theorem ins64_any (w : World) (A : Option Addr) (n c : Nat) (s : List Nat) (hl : s.length = n) (hn : n ≤ 12) (hS0 : St w (owns [row 53 1 A n c (s.map uv)]) [row 53 1 A n c (s.map uv)] w) :
    Gives Try.prog 58 [.slice A n c, .int .i64 (0 : Int), .int .i64 (n : Int)] [row 53 1 A n c (s.map uv)] w (X := List Nat) (fun _ => .tuple #[]) (fun x => x.Perm s ∧ x.Pairwise (· ≤ ·)) (fun x => [row 53 1 A n c (x.map uv)]) := by
  refine gives_N Try.func58 rfl Try.ntmps58 Try.results58 (by simp) hS0 (fun B hB => ?_)
  refine RS_row A n c fun hmc hcm hne hxl => ?_
  focus (refine S_seq rfl ?_; refine S_region rfl rfl ?_; refine R_p rfl ?_ rfl rfl; refine R_take (T_sum rfl rfl rfl (by unfold fits; omega)) ?_ rfl rfl; refine R_p rfl ?_ rfl rfl; refine R_nil ?_; refine S_block rfl ?_)
  refine S_loop (X := Nat × List Nat) (fun x => [(0, .slice A n c), (1, .int .i64 (0 : Int)), (2, .int .i64 (n : Int)), (6, .int .i64 (x.1 : Int))]) (fun x => [row 53 1 A n c (x.2.map uv)]) (fun x => 1 ≤ x.1 ∧ (x.1 ≤ n ∨ x.1 = 1) ∧ x.2.Perm s ∧ ∀ p q, p < q → q < x.1 → q < n → x.2.getD p 0 ≤ x.2.getD q 0) (fun x => n - x.1) rfl (1, s) ⟨Nat.le_refl _, .inr rfl, .refl _, fun p q h1 h2 _ => by omega⟩ (Sub.cons rfl (Sub.cons rfl (Sub.cons rfl (Sub.cons rfl Sub.nil)))) (fun _ h => h) ?_
  rintro ⟨i, t⟩ ⟨hi0, hi, hp, hs⟩ J hJ
  simp only at hi0 hi hp hs ⊢
  have htl : t.length = n := by rw [hp.length_eq, hl]
  rcases Nat.lt_or_ge i n with hil | hil
  rotate_left
  · skip
    focus (refine S_seq rfl ?_; refine S_seq rfl ?_; refine S_region rfl rfl ?_; refine R_p rfl ?_ rfl rfl; refine R_p rfl ?_ rfl rfl; refine R_take (T_decF rfl (by omega)) ?_ rfl rfl; refine R_nil ?_; refine S_false rfl rfl ?_; refine S_exit rfl rfl ?_)
    refine hB _ _ fun w' hS => ⟨t, ⟨hp, sorted_of fun p q h1 h2 => hs p q h1 (by omega) (by omega)⟩, hS⟩
  focus (refine S_seq rfl ?_; refine S_seq rfl ?_; refine S_region rfl rfl ?_; refine R_p rfl ?_ rfl rfl; refine R_p rfl ?_ rfl rfl; refine R_take (T_decT rfl (by omega)) ?_ rfl rfl; refine R_nil ?_; refine S_true rfl rfl ?_; refine S_skip rfl ?_; refine S_seq rfl ?_; refine S_block rfl ?_; refine S_seq rfl ?_; refine S_region rfl rfl ?_; refine R_p rfl ?_ rfl rfl; refine R_p rfl ?_ rfl rfl; refine R_nil ?_; refine S_block rfl ?_)
  refine S_loop (X := Nat × List Nat) (fun x => [(0, .slice A n c), (1, .int .i64 (0 : Int)), (2, .int .i64 (n : Int)), (6, .int .i64 (i : Int)), (7, .int .i64 (x.1 : Int))]) (fun x => [row 53 1 A n c (x.2.map uv)]) (fun x => x.1 ≤ i ∧ x.2.Perm s ∧ ∀ p q, p < q → q ≤ i → q ≠ x.1 → x.2.getD p 0 ≤ x.2.getD q 0) (fun x => x.1) rfl (i, t) ⟨Nat.le_refl _, hp, fun p q h1 h2 h3 => hs p q h1 (by omega) (by omega)⟩ (Sub.cons rfl (Sub.cons rfl (Sub.cons rfl (Sub.cons rfl (Sub.cons rfl Sub.nil))))) (fun _ h => h) ?_
  clear hs hp htl
  rintro ⟨j, t⟩ ⟨hj, hp, hs⟩ J2 hJ2
  simp only at hj hp hs ⊢
  have htl : t.length = n := by rw [hp.length_eq, hl]
  rcases Nat.eq_zero_or_pos j with rfl | hj0
  · skip
    focus (refine S_seq rfl ?_; refine S_seq rfl ?_)
    refine S_draw (_) (fun _ h => h) (by kernel_rfl) rfl (by kernel_rfl) (by kernel_rfl : _ = 15) ?_
    refine D_take 0 rfl (pev_ok rfl) ?_ rfl rfl (by kernel_rfl) (by kernel_rfl)
    refine D_take 1 rfl (pev_ok rfl) ?_ rfl rfl (by kernel_rfl) (by kernel_rfl)
    refine D_take 2 rfl (T_decF rfl (by omega)) ?_ rfl rfl (by kernel_rfl) (by kernel_rfl)
    refine D_take 3 rfl (pev_ok rfl) ?_ rfl rfl (by kernel_rfl) (by kernel_rfl)
    refine D_skip 4 rfl ?_ rfl rfl (by kernel_rfl) (by kernel_rfl)
    refine D_skip 5 rfl ?_ rfl rfl (by kernel_rfl) (by kernel_rfl)
    refine D_skip 6 rfl ?_ rfl rfl (by kernel_rfl) (by kernel_rfl)
    refine D_skip 7 rfl ?_ rfl rfl (by kernel_rfl) (by kernel_rfl)
    refine D_skip 8 rfl ?_ rfl rfl (by kernel_rfl) (by kernel_rfl)
    refine D_skip 9 rfl ?_ rfl rfl (by kernel_rfl) (by kernel_rfl)
    refine D_skip 10 rfl ?_ rfl rfl (by kernel_rfl) (by kernel_rfl)
    refine D_skip 11 rfl ?_ rfl rfl (by kernel_rfl) (by kernel_rfl)
    refine D_skip 12 rfl ?_ rfl rfl (by kernel_rfl) (by kernel_rfl)
    refine D_skip 13 rfl ?_ rfl rfl (by kernel_rfl) (by kernel_rfl)
    refine D_take 14 rfl (pev_ok rfl) ?_ rfl rfl (by kernel_rfl) (by kernel_rfl)
    refine D_done ?_ (by kernel_rfl)
    skip
    focus (refine S_false rfl rfl ?_; refine S_exit rfl rfl ?_; refine RS_blk ?_; refine S_region rfl rfl ?_; refine R_p rfl ?_ rfl rfl; refine R_take (T_addN rfl rfl (by unfold fits; omega)) ?_ rfl rfl; refine R_p rfl ?_ rfl rfl; refine R_nil ?_)
    refine hJ (i + 1, t) _ _ ⟨by show 1 ≤ i + 1; omega, .inl (by show i + 1 ≤ n; omega), hp, fun p q h1 h2 h3 => hs p q h1 (by show q ≤ i; omega) (by omega)⟩ (Sub.cons rfl (Sub.cons rfl (Sub.cons rfl (Sub.cons rfl Sub.nil)))) (fun _ h => h) (by show n - (i + 1) < _; omega)
  have hla := uv_at (s := t) (j := j) (by omega)
  have hlb := uv_at (s := t) (j := j - 1) (by omega)
  have hsw := swp_at (t := t) hj0 (by omega)
  have hpw := swp_perm (t := t) hj0 (by omega)
  have hsu : (swp t j).map uv = ((t.map uv).set j (uv (t.getD (j - 1) 0))).set (j - 1) (uv (t.getD j 0)) := by rw [swp, List.map_set, List.map_set]
  obtain ⟨a, ha⟩ : ∃ a, t.getD j 0 = a := ⟨_, rfl⟩
  obtain ⟨b, hb⟩ : ∃ b, t.getD (j - 1) 0 = b := ⟨_, rfl⟩
  rw [ha] at hla hsw hsu
  rw [hb] at hlb hsw hsu
  obtain ⟨r, hr⟩ : ∃ r, decide (a < b) = r := ⟨_, rfl⟩
  focus (refine S_seq rfl ?_; refine S_seq rfl ?_)
  refine S_draw ([row 53 1 A n c (t.map uv)]) sub_st (by kernel_rfl) rfl (by kernel_rfl) (by kernel_rfl : _ = 15) ?_
  refine D_take 0 rfl (pev_ok rfl) ?_ rfl rfl (by kernel_rfl) (by kernel_rfl)
  refine D_take 1 rfl (pev_ok rfl) ?_ rfl rfl (by kernel_rfl) (by kernel_rfl)
  refine D_take 2 rfl (T_decT rfl (by omega)) ?_ rfl rfl (by kernel_rfl) (by kernel_rfl)
  refine D_take 3 rfl (pev_ok rfl) ?_ rfl rfl (by kernel_rfl) (by kernel_rfl)
  refine D_take 4 rfl (pev_ok rfl) ?_ rfl rfl (by kernel_rfl) (by kernel_rfl)
  refine D_take 5 rfl (pev_ok rfl) ?_ rfl rfl (by kernel_rfl) (by kernel_rfl)
  refine D_take 6 rfl (T_ixN rfl rfl rfl rfl rfl rfl (by first | assumption | exact hne (by omega) | exact hne2 (by omega)) (by omega)) ?_ rfl rfl (by kernel_rfl) (by kernel_rfl)
  refine D_take 7 rfl (T_ldr rfl rfl rfl (Srd.row (n := n) (c := c)) (by omega) hla) ?_ rfl rfl (by kernel_rfl) (by kernel_rfl)
  refine D_take 8 rfl (pev_ok rfl) ?_ rfl rfl (by kernel_rfl) (by kernel_rfl)
  refine D_take 9 rfl (pev_ok rfl) ?_ rfl rfl (by kernel_rfl) (by kernel_rfl)
  (refine D_take 10 rfl (T_subN rfl rfl (by omega) (by unfold fits; omega)) ?_ rfl rfl (by kernel_rfl) (by kernel_rfl))
  refine D_take 11 rfl (T_ixN rfl rfl rfl rfl rfl rfl (by first | assumption | exact hne (by omega) | exact hne2 (by omega)) (by omega)) ?_ rfl rfl (by kernel_rfl) (by kernel_rfl)
  refine D_take 12 rfl (T_ldr rfl rfl rfl (Srd.row (n := n) (c := c)) (by omega) hlb) ?_ rfl rfl (by kernel_rfl) (by kernel_rfl)
  refine D_one 13 rfl (E_less64 rfl rfl hr) ?_ rfl rfl (by kernel_rfl)
  rintro _ _ ⟨rfl, rfl⟩
  refine Nx_same sub_st ?_
  refine D_take 14 rfl (pev_ok rfl) ?_ rfl rfl (by kernel_rfl) (by kernel_rfl)
  refine D_done ?_ (by kernel_rfl)
  skip
  cases r
  · focus (refine S_false rfl rfl ?_; refine S_exit rfl rfl ?_; refine RS_blk ?_; refine S_region rfl rfl ?_; refine R_p rfl ?_ rfl rfl; refine R_take (T_addN rfl rfl (by unfold fits; omega)) ?_ rfl rfl; refine R_p rfl ?_ rfl rfl; refine R_nil ?_)
    have hab := of_decide_eq_false hr
    refine hJ (i + 1, t) _ _ ⟨by show 1 ≤ i + 1; omega, .inl (by show i + 1 ≤ n; omega), hp, fun p q h1 h2 h3 => ?_⟩ (Sub.cons rfl (Sub.cons rfl (Sub.cons rfl (Sub.cons rfl Sub.nil)))) (fun _ h => h) (by show n - (i + 1) < _; omega)
    have h2 : q < i + 1 := h2
    show t.getD p 0 ≤ t.getD q 0
    rcases Nat.lt_or_ge q j with hq | hq
    · exact hs p q h1 (by omega) (by omega)
    rcases Nat.lt_or_ge j q with hq2 | hq2
    · exact hs p q h1 (by omega) (by omega)
    · have : q = j := by omega
      subst this
      rcases Nat.lt_or_ge p (q - 1) with hp1 | hp1
      · have := hs p (q - 1) hp1 (by omega) (by omega)
        omega
      · have : p = q - 1 := by omega
        subst this
        omega
  · have hab := of_decide_eq_true hr
    focus (refine S_true rfl rfl ?_; refine S_skip rfl ?_; refine S_seq rfl ?_; refine S_block rfl ?_)
    refine S_cut (X := Unit) (fun _ => [(0, .slice A n c), (1, .int .i64 (0 : Int)), (2, .int .i64 (n : Int)), (6, .int .i64 (i : Int)), (7, .int .i64 (j : Int))]) (fun _ => [row 53 1 A n c ((swp t j).map uv)]) (fun _ => True) (fun K hK => ?_) (fun _ _ => ?_)
    · skip
      refine S_draw ([]) sub_st (by kernel_rfl) rfl (by kernel_rfl) (by kernel_rfl : _ = 18) ?_
      refine D_take 0 rfl (pev_ok rfl) ?_ rfl rfl (by kernel_rfl) (by kernel_rfl)
      refine D_take 1 rfl (pev_ok rfl) ?_ rfl rfl (by kernel_rfl) (by kernel_rfl)
      refine D_take 2 rfl (pev_ok rfl) ?_ rfl rfl (by kernel_rfl) (by kernel_rfl)
      refine D_take 3 rfl (pev_ok rfl) ?_ rfl rfl (by kernel_rfl) (by kernel_rfl)
      (refine D_take 4 rfl (T_subN rfl rfl (by omega) (by unfold fits; omega)) ?_ rfl rfl (by kernel_rfl) (by kernel_rfl))
      refine D_take 5 rfl (pev_ok rfl) ?_ rfl rfl (by kernel_rfl) (by kernel_rfl)
      refine D_take 6 rfl (pev_ok rfl) ?_ rfl rfl (by kernel_rfl) (by kernel_rfl)
      (refine D_take 7 rfl (T_subN rfl rfl (by omega) (by unfold fits; omega)) ?_ rfl rfl (by kernel_rfl) (by kernel_rfl))
      refine D_take 8 rfl (T_ixN rfl rfl rfl rfl rfl rfl (by first | assumption | exact hne (by omega) | exact hne2 (by omega)) (by omega)) ?_ rfl rfl (by kernel_rfl) (by kernel_rfl)
      refine D_take 10 rfl (pev_ok rfl) ?_ rfl rfl (by kernel_rfl) (by kernel_rfl)
      refine D_take 11 rfl (pev_ok rfl) ?_ rfl rfl (by kernel_rfl) (by kernel_rfl)
      refine D_take 12 rfl (T_ixN rfl rfl rfl rfl rfl rfl (by first | assumption | exact hne (by omega) | exact hne2 (by omega)) (by omega)) ?_ rfl rfl (by kernel_rfl) (by kernel_rfl)
      refine D_two 9 13 (by decide) rfl rfl (E_tk (T_ldr rfl rfl rfl (Srd.row (n := n) (c := c)) (by omega) hlb)) (E_tk (T_ldr rfl rfl rfl (Srd.row (n := n) (c := c)) (by omega) hla)) ?_ ?_ rfl rfl rfl rfl (by kernel_rfl)
      · rintro _ _ ⟨rfl, rfl⟩
        refine Nx_same sub_st ?_
        refine D_one 13 rfl (E_tk (T_ldr rfl rfl rfl (Srd.row (n := n) (c := c)) (by omega) hla)) ?_ rfl rfl (by kernel_rfl)
        rintro _ _ ⟨rfl, rfl⟩
        refine Nx_same sub_st ?_
        refine D_take 14 rfl (T_ixN rfl rfl rfl rfl rfl rfl (by first | assumption | exact hne (by omega) | exact hne2 (by omega)) (by omega)) ?_ rfl rfl (by kernel_rfl) (by kernel_rfl)
        refine D_one 15 rfl (E_storeR1 (m := n) (c := c) (A := A) (xs := t.map uv) rfl rfl rfl rfl rfl (by rw [List.length_map]; omega)) ?_ rfl rfl (by kernel_rfl)
        rintro _ _ rfl
        refine Nx_same sub_st ?_
        refine D_take 16 rfl (T_ixN rfl rfl rfl rfl rfl rfl (by first | assumption | exact hne (by omega) | exact hne2 (by omega)) (by omega)) ?_ rfl rfl (by kernel_rfl) (by kernel_rfl)
        refine D_one 17 rfl (E_storeR1 (m := n) (c := c) (A := A) (xs := (t.map uv).set j (uv b)) rfl rfl rfl rfl rfl (by rw [List.length_set, List.length_map]; omega)) ?_ rfl rfl (by kernel_rfl)
        rintro _ _ rfl
        refine Nx_same sub_st ?_
        refine D_done ?_ (by kernel_rfl)
        (rw [← hsu]; exact hK () _ _ trivial (Sub.cons rfl (Sub.cons rfl (Sub.cons rfl (Sub.cons rfl (Sub.cons rfl Sub.nil))))) sub_st)
      · rintro _ _ ⟨rfl, rfl⟩
        refine Nx_same sub_st ?_
        refine D_one 9 rfl (E_tk (T_ldr rfl rfl rfl (Srd.row (n := n) (c := c)) (by omega) hlb)) ?_ rfl rfl (by kernel_rfl)
        rintro _ _ ⟨rfl, rfl⟩
        refine Nx_same sub_st ?_
        refine D_take 14 rfl (T_ixN rfl rfl rfl rfl rfl rfl (by first | assumption | exact hne (by omega) | exact hne2 (by omega)) (by omega)) ?_ rfl rfl (by kernel_rfl) (by kernel_rfl)
        refine D_one 15 rfl (E_storeR1 (m := n) (c := c) (A := A) (xs := t.map uv) rfl rfl rfl rfl rfl (by rw [List.length_map]; omega)) ?_ rfl rfl (by kernel_rfl)
        rintro _ _ rfl
        refine Nx_same sub_st ?_
        refine D_take 16 rfl (T_ixN rfl rfl rfl rfl rfl rfl (by first | assumption | exact hne (by omega) | exact hne2 (by omega)) (by omega)) ?_ rfl rfl (by kernel_rfl) (by kernel_rfl)
        refine D_one 17 rfl (E_storeR1 (m := n) (c := c) (A := A) (xs := (t.map uv).set j (uv b)) rfl rfl rfl rfl rfl (by rw [List.length_set, List.length_map]; omega)) ?_ rfl rfl (by kernel_rfl)
        rintro _ _ rfl
        refine Nx_same sub_st ?_
        refine D_done ?_ (by kernel_rfl)
        (rw [← hsu]; exact hK () _ _ trivial (Sub.cons rfl (Sub.cons rfl (Sub.cons rfl (Sub.cons rfl (Sub.cons rfl Sub.nil))))) sub_st)
    focus (refine RS_blk ?_; refine S_region rfl rfl ?_; refine R_p rfl ?_ rfl rfl; refine R_take (T_subN rfl rfl (by omega) (by unfold fits; omega)) ?_ rfl rfl; refine R_p rfl ?_ rfl rfl; refine R_nil ?_)
    refine hJ2 (j - 1, swp t j) _ _ ⟨by show j - 1 ≤ i; omega, hpw.trans hp, fun p q h1 h2 h3 => ?_⟩ (Sub.cons rfl (Sub.cons rfl (Sub.cons rfl (Sub.cons rfl (Sub.cons rfl Sub.nil))))) (fun _ h => h) (by show j - 1 < j; omega)
    have h2 : q ≤ i := h2
    have h3 : q ≠ j - 1 := h3
    show (swp t j).getD p 0 ≤ (swp t j).getD q 0
    rw [hsw p, hsw q, if_neg h3]
    by_cases hqj : q = j
    · subst hqj
      rw [if_pos rfl]
      by_cases hp1 : p = q - 1
      · rw [if_pos hp1]
        omega
      · rw [if_neg hp1, if_neg (by omega)]
        have := hs p (q - 1) (by omega) (by omega) (by omega)
        omega
    · rw [if_neg hqj]
      by_cases hp1 : p = j - 1
      · rw [if_pos hp1]
        have := hs j q (by omega) h2 hqj
        omega
      · rw [if_neg hp1]
        by_cases hp2 : p = j
        · rw [if_pos hp2]
          have := hs (j - 1) q (by omega) h2 hqj
          omega
        · rw [if_neg hp2]
          exact hs p q h1 h2 hqj
end Go.Proofs.Ytlihhjldkopfhaa
