/- Digests: roots and primes, walked. -/
import Derived.Test.YtemgfoakffappaaDoorShJ
import Derived.Test.YtemgfoakffappaaDoorShM
namespace Go.Proofs.YtemgfoakffappaaDoor
open Go.RowKit
open Asn (pt row rb)
set_option linter.unusedVariables false
set_option linter.unusedSimpArgs false
--@use N
def d64 (n : Nat) : Value := .int .u64 (n : Int)
theorem d64_ones (l : List Nat) : ∀ u ∈ l.map d64, u.oneCell' = true := fun u hu => by obtain ⟨x, _, rfl⟩ := List.mem_map.1 hu; rfl
set_option maxRecDepth 100000 in
set_option maxHeartbeats 4000000 in
theorem times_any (w : World) (A : Option Addr) (n c : Nat) (l : List Nat) (x : Nat) (h : Rd w All 1 A n (l.map d64)) (hl : Digs l) (hx : x < 2199023255552) (hn : n ≤ 1000) :
    Gives Tryd.prog 52 [.slice A n c, .int .u64 (x : Int)] [] w (X := Option Addr × Nat × Nat × List Nat) (fun r => .slice r.1 r.2.1 r.2.2.1) (fun r => Digs r.2.2.2 ∧ val r.2.2.2 = val l * x ∧ r.2.2.2.length = r.2.1 ∧ r.2.1 ≤ n + 3) (fun r => [row 55 1 r.1 r.2.1 r.2.2.1 (r.2.2.2.map d64)]) := by
  refine gives_S Tryd.func52 rfl Tryd.ntmps52 Tryd.results52 (by simp) (St.enter w) (fun B hB => ?_)
  have hln : l.length = n := by have := h.1; simpa using this
  have hneA : 0 < n → A ≠ none := fun h0 => by obtain ⟨ad, rfl, _⟩ := h.2 h0; simp
  focus (refine S_seq rfl ?_; refine S_region rfl rfl ?_; refine R_p rfl ?_ rfl rfl; refine R_nil ?_; refine S_seq rfl ?_; refine S_region rfl rfl ?_; refine R_p rfl ?_ rfl rfl; refine R_nil ?_; refine S_seq rfl ?_; refine S_region rfl rfl ?_; refine R_p rfl ?_ rfl rfl; refine R_nil ?_; refine S_seq rfl ?_; refine S_seq rfl ?_; refine S_region rfl rfl ?_; refine R_p rfl ?_ rfl rfl; refine R_nil ?_; refine S_block rfl ?_)
  refine RS_mem (fun w hS => hS.nilrow 55 1) ?_
  refine S_loop (X := Nat × Option Addr × Nat × Nat × List Nat) (fun s => [(0, .slice A n c), (1, .int .u64 (x : Int)), (5, .slice s.2.1 s.1 s.2.2.1), (6, .int .u64 (s.2.2.2.1 : Int)), (7, .int .i64 (s.1 : Int))]) (fun s => [row 55 1 s.2.1 s.1 s.2.2.1 (s.2.2.2.2.map d64)])
    (fun s => s.2.2.2.2.length = s.1 ∧ Digs s.2.2.2.2 ∧ val s.2.2.2.2 + s.2.2.2.1 * 65536 ^ s.1 = val (l.take s.1) * x ∧ s.2.2.2.1 * 65536 ^ (s.1 - n) ≤ x ∧ s.1 ≤ n + 3) (fun s => (n - s.1) * (x + 1) + s.2.2.2.1) rfl (0, none, 0, 0, []) ⟨rfl, fun d hd => by simp at hd, by simp [val], by simp, by simp⟩ (Sub.cons rfl (Sub.cons rfl (Sub.cons rfl (Sub.cons rfl (Sub.cons rfl Sub.nil))))) (fun w hS => sub_st (H := [row 55 1 none 0 0 []]) (H' := [row 55 1 none 0 0 []]) w hS) ?_
  rintro ⟨i, A3, c3, cy, os⟩ ⟨ho, hd, hv, hc, hi⟩ J hJ
  dsimp only at ho hd hv hc hi ⊢
  rcases Nat.lt_or_ge i n with hlt | hge
  · have hne := hneA (by omega)
    have hcx : cy ≤ x := by rw [show i - n = 0 by omega] at hc; simpa using hc
    have hdi := hl.at_ i
    have hdx : l.getD i 0 * x ≤ 65535 * x := Nat.mul_le_mul_right _ (by omega)
    focus (refine S_seq rfl ?_; refine S_seq rfl ?_; refine S_region rfl rfl ?_; refine R_p rfl ?_ rfl rfl; refine R_p rfl ?_ rfl rfl; refine R_p rfl ?_ rfl rfl; refine R_take (T_decT rfl (by omega)) ?_ rfl rfl; refine R_p rfl ?_ rfl rfl; refine R_skip ?_ rfl rfl; refine R_skip ?_ rfl rfl; refine R_p rfl ?_ rfl rfl; refine R_nil ?_; refine S_true rfl rfl ?_; refine S_skip rfl ?_; refine S_seq rfl ?_; refine S_block rfl ?_; refine S_seq rfl ?_; refine S_region rfl rfl ?_; refine R_p rfl ?_ rfl rfl; refine R_p rfl ?_ rfl rfl; refine R_nil ?_; refine S_seq rfl ?_; refine S_seq rfl ?_; refine S_region rfl rfl ?_; refine R_p rfl ?_ rfl rfl; refine R_p rfl ?_ rfl rfl; refine R_p rfl ?_ rfl rfl; refine R_take (T_decT rfl (by omega)) ?_ rfl rfl; refine R_nil ?_; refine S_true rfl rfl ?_; refine S_region rfl rfl ?_; refine R_p rfl ?_ rfl rfl; refine R_p rfl ?_ rfl rfl; refine R_p rfl ?_ rfl rfl; refine R_take (T_ixN rfl rfl rfl rfl rfl rfl (by first | assumption | exact hne (by omega) | exact hne2 (by omega)) (by omega)) ?_ rfl rfl; refine R_take (T_loado (j := i) (v := d64 (l.getD i 0)) rfl rfl rfl h (map_at d64 0 (by omega)) (fun k _ => noOwns k)) ?_ rfl rfl; refine R_p rfl ?_ rfl rfl; refine R_take (T_mulN rfl rfl (by unfold fits; omega)) ?_ rfl rfl; refine R_take (T_addN rfl rfl (by unfold fits; omega)) ?_ rfl rfl; refine R_p rfl ?_ rfl rfl; refine R_nil ?_; refine S_seq rfl ?_; refine S_region rfl rfl ?_; refine R_p rfl ?_ rfl rfl; refine R_p rfl ?_ rfl rfl; refine R_take (T_modN rfl rfl (by omega)) ?_ rfl rfl; (refine R_eff (E_lit1 (vs := [d64 ((cy + l.getD i 0 * x) % 65536)]) rfl rfl rfl rfl rfl rfl rfl (by simp [d64, Value.oneCell']) (by decide)) ?_ rfl rfl; rintro _ _ ⟨bl1, rfl, rfl⟩); (refine R_eff (E_app1 (m2 := 1) (news := [d64 ((cy + l.getD i 0 * x) % 65536)]) rfl rfl rfl rfl rfl rfl rfl (Srd.pt rfl (fun j v h => by simpa using h)) (by simp [d64, Value.oneCell']) (by simp only [ti55]; omega) (by unfold maxLen; omega)) ?_ rfl rfl; rintro _ _ ⟨A4, c4, rfl, rfl⟩); refine R_p rfl ?_ rfl rfl; refine R_nil ?_; refine S_region rfl rfl ?_; refine R_p rfl ?_ rfl rfl; refine R_take (T_divN rfl rfl (by omega) (by unfold fits; omega)) ?_ rfl rfl; refine R_p rfl ?_ rfl rfl; refine R_nil ?_; refine RS_blk ?_; refine S_region rfl rfl ?_; refine R_p rfl ?_ rfl rfl; refine R_take (T_addN rfl rfl (by unfold fits; omega)) ?_ rfl rfl; refine R_p rfl ?_ rfl rfl; refine R_nil ?_)
    refine hJ (i + 1, A4, c4, (cy + l.getD i 0 * x) / 65536, os ++ [(cy + l.getD i 0 * x) % 65536]) _ _ ⟨by simp [ho], ?_, times_step (by omega) ho hv, ?_, by dsimp only; omega⟩ (Sub.cons rfl (Sub.cons rfl (Sub.cons rfl (Sub.cons rfl (Sub.cons rfl Sub.nil))))) (by dsimp only; rw [List.map_append, List.map_cons, List.map_nil]; exact sub_st) ?_
    · intro d hd2
      rcases List.mem_append.1 hd2 with h2 | h2
      · exact hd d h2
      · rw [List.mem_singleton.1 h2]
        exact Nat.mod_lt _ (by decide)
    · dsimp only
      rw [show i + 1 - n = 0 by omega, Nat.pow_zero, Nat.mul_one]
      exact carry_lt hcx hdi
    · dsimp only
      have h5 := carry_lt hcx hdi
      have h6 : (n - i) * (x + 1) = (n - (i + 1)) * (x + 1) + (x + 1) := by rw [show n - i = (n - (i + 1)) + 1 by omega, Nat.add_mul, Nat.one_mul]
      omega
  · rcases Nat.eq_zero_or_pos cy with h0 | h0
    · subst h0
      focus (refine S_seq rfl ?_; refine S_seq rfl ?_; refine S_region rfl rfl ?_; refine R_p rfl ?_ rfl rfl; refine R_p rfl ?_ rfl rfl; refine R_p rfl ?_ rfl rfl; refine R_take (T_decF rfl (by omega)) ?_ rfl rfl; refine R_p rfl ?_ rfl rfl; refine R_p rfl ?_ rfl rfl; refine R_take (T_decF rfl (by omega)) ?_ rfl rfl; refine R_p rfl ?_ rfl rfl; refine R_nil ?_; refine S_false rfl rfl ?_; refine S_exit rfl rfl ?_; refine S_seq rfl ?_; refine S_region rfl rfl ?_; refine R_p rfl ?_ rfl rfl; refine R_p rfl ?_ rfl rfl; refine R_nil ?_)
      refine hB _ _ _ _ _ rfl rfl fun w' hS => ⟨(A3, i, c3, os), rfl, ⟨hd, ?_, ho, hi⟩, hS⟩
      rw [Nat.zero_mul, Nat.add_zero, List.take_of_length_le (by omega)] at hv
      exact hv
    · have hp := carry_pow hc h0 hx
      have hcx : cy ≤ x := by
        have : cy * 1 ≤ cy * 65536 ^ (i - n) := Nat.mul_le_mul_left _ (Nat.pow_pos (by decide))
        omega
      focus (refine S_seq rfl ?_; refine S_seq rfl ?_; refine S_region rfl rfl ?_; refine R_p rfl ?_ rfl rfl; refine R_p rfl ?_ rfl rfl; refine R_p rfl ?_ rfl rfl; refine R_take (T_decF rfl (by omega)) ?_ rfl rfl; refine R_p rfl ?_ rfl rfl; refine R_p rfl ?_ rfl rfl; refine R_take (T_decT rfl (by omega)) ?_ rfl rfl; refine R_p rfl ?_ rfl rfl; refine R_nil ?_; refine S_true rfl rfl ?_; refine S_skip rfl ?_; refine S_seq rfl ?_; refine S_block rfl ?_; refine S_seq rfl ?_; refine S_region rfl rfl ?_; refine R_p rfl ?_ rfl rfl; refine R_p rfl ?_ rfl rfl; refine R_nil ?_; refine S_seq rfl ?_; refine S_seq rfl ?_; refine S_region rfl rfl ?_; refine R_p rfl ?_ rfl rfl; refine R_p rfl ?_ rfl rfl; refine R_p rfl ?_ rfl rfl; refine R_take (T_decF rfl (by omega)) ?_ rfl rfl; refine R_nil ?_; refine S_false rfl rfl ?_; refine S_skip rfl ?_; refine S_seq rfl ?_; refine S_region rfl rfl ?_; refine R_p rfl ?_ rfl rfl; refine R_p rfl ?_ rfl rfl; refine R_take (T_modN rfl rfl (by omega)) ?_ rfl rfl; (refine R_eff (E_lit1 (vs := [d64 (cy % 65536)]) rfl rfl rfl rfl rfl rfl rfl (by simp [d64, Value.oneCell']) (by decide)) ?_ rfl rfl; rintro _ _ ⟨bl1, rfl, rfl⟩); (refine R_eff (E_app1 (m2 := 1) (news := [d64 (cy % 65536)]) rfl rfl rfl rfl rfl rfl rfl (Srd.pt rfl (fun j v h => by simpa using h)) (by simp [d64, Value.oneCell']) (by simp only [ti55]; omega) (by unfold maxLen; omega)) ?_ rfl rfl; rintro _ _ ⟨A4, c4, rfl, rfl⟩); refine R_p rfl ?_ rfl rfl; refine R_nil ?_; refine S_region rfl rfl ?_; refine R_p rfl ?_ rfl rfl; refine R_take (T_divN rfl rfl (by omega) (by unfold fits; omega)) ?_ rfl rfl; refine R_p rfl ?_ rfl rfl; refine R_nil ?_; refine RS_blk ?_; refine S_region rfl rfl ?_; refine R_p rfl ?_ rfl rfl; refine R_take (T_addN rfl rfl (by unfold fits; omega)) ?_ rfl rfl; refine R_p rfl ?_ rfl rfl; refine R_nil ?_)
      refine hJ (i + 1, A4, c4, cy / 65536, os ++ [cy % 65536]) _ _ ⟨by simp [ho], ?_, times_tail (by omega) ho hv, ?_, by dsimp only; omega⟩ (Sub.cons rfl (Sub.cons rfl (Sub.cons rfl (Sub.cons rfl (Sub.cons rfl Sub.nil))))) (by dsimp only; rw [List.map_append, List.map_cons, List.map_nil]; exact sub_st) ?_
      · intro d hd2
        rcases List.mem_append.1 hd2 with h2 | h2
        · exact hd d h2
        · rw [List.mem_singleton.1 h2]
          exact Nat.mod_lt _ (by decide)
      · dsimp only
        rw [show i + 1 - n = (i - n) + 1 by omega]
        exact carry_tail hc
      · dsimp only
        rw [show n - (i + 1) = 0 by omega, show n - i = 0 by omega]
        omega

set_option maxRecDepth 100000 in
set_option maxHeartbeats 4000000 in
theorem above_any (w : World) (A1 A2 : Option Addr) (n1 c1 n2 c2 : Nat) (a b : List Nat) (h1 : Rd w All 1 A1 n1 (a.map d64)) (h2 : Rd w All 1 A2 n2 (b.map d64)) (ha : Digs a) (hb : Digs b) (hn1 : n1 ≤ 1000) (hn2 : n2 ≤ 1000) :
    Gives Tryd.prog 53 [.slice A1 n1 c1, .slice A2 n2 c2] [] w (X := Unit) (fun r => .bool (decide (val b < val a))) (fun r => True) (fun r => []) := by
  refine gives_S Tryd.func53 rfl Tryd.ntmps53 Tryd.results53 (by simp) (St.enter w) (fun B hB => ?_)
  have hla : a.length = n1 := by have := h1.1; simpa using this
  have hlb : b.length = n2 := by have := h2.1; simpa using this
  have hneA : 0 < n1 → A1 ≠ none := fun h0 => by obtain ⟨ad, rfl, _⟩ := h1.2 h0; simp
  have hneB : 0 < n2 → A2 ≠ none := fun h0 => by obtain ⟨ad, rfl, _⟩ := h2.2 h0; simp
  focus (refine S_seq rfl ?_; refine S_region rfl rfl ?_; refine R_p rfl ?_ rfl rfl; refine R_nil ?_; refine S_seq rfl ?_; refine S_seq rfl ?_; refine S_region rfl rfl ?_; refine R_p rfl ?_ rfl rfl; refine R_p rfl ?_ rfl rfl; refine R_p rfl ?_ rfl rfl; refine R_p rfl ?_ rfl rfl; refine R_take (T_addN rfl rfl (by unfold fits; omega)) ?_ rfl rfl; refine R_p rfl ?_ rfl rfl; refine R_nil ?_; refine S_block rfl ?_)
  refine S_loop (X := Nat) (fun i => [(0, .slice A1 n1 c1), (1, .slice A2 n2 c2), (5, .int .i64 (i : Int))]) (fun i => []) (fun i => i ≤ n1 + n2 ∧ ∀ j, i ≤ j → a.getD j 0 = b.getD j 0) (fun i => i) rfl (n1 + n2) ⟨Nat.le_refl _, fun j hj => by simp [List.getD, List.getElem?_eq_none (show a.length ≤ j by omega), List.getElem?_eq_none (show b.length ≤ j by omega)]⟩ (Sub.cons rfl (Sub.cons rfl (Sub.cons rfl Sub.nil))) (fun _ h => h) ?_
  rintro i ⟨hi, hsame⟩ J hJ
  rcases Nat.eq_zero_or_pos i with h0 | h0
  · subst h0
    focus (refine S_seq rfl ?_; refine S_seq rfl ?_; refine S_region rfl rfl ?_; refine R_p rfl ?_ rfl rfl; refine R_p rfl ?_ rfl rfl; refine R_nil ?_; refine S_false rfl rfl ?_; refine S_exit rfl rfl ?_; refine S_seq rfl ?_; refine S_region rfl rfl ?_; refine R_p rfl ?_ rfl rfl; refine R_nil ?_)
    all_goals (try (exfalso; omega; done))
    refine hB _ _ _ _ _ rfl rfl fun w' hS => ⟨(), ?_, trivial, hS⟩
    rw [val_ext (max n1 n2) a b (by omega) (by omega) (fun j => hsame j (by omega)), decide_eq_false (by omega)]
    rfl
  obtain ⟨x, hx⟩ : ∃ x, a.getD (i - 1) 0 = x := ⟨_, rfl⟩
  obtain ⟨y, hy⟩ : ∃ y, b.getD (i - 1) 0 = y := ⟨_, rfl⟩
  have hx0 : ¬ i ≤ n1 → x = 0 := fun h => by rw [← hx]; simp [List.getD, List.getElem?_eq_none (show a.length ≤ i - 1 by omega)]
  have hy0 : ¬ i ≤ n2 → y = 0 := fun h => by rw [← hy]; simp [List.getD, List.getElem?_eq_none (show b.length ≤ i - 1 by omega)]
  have hdiff : x ≠ y → decide (val b < val a) = decide (y < x) := fun hne => by
    rcases Nat.lt_or_ge x y with h3 | h3
    · have := val_lt (i - 1) a b ha hb (fun j hj => hsame j (by omega)) (by omega)
      rw [decide_eq_false (by omega), decide_eq_false (by omega)]
    · have := val_lt (i - 1) b a hb ha (fun j hj => (hsame j (by omega)).symm) (by omega)
      rw [decide_eq_true (by omega), decide_eq_true (by omega)]
  have hlx : i ≤ n1 → (a.map d64)[i - 1]? = some (d64 x) := fun h => by rw [← hx]; exact map_at d64 0 (by omega)
  have hly : i ≤ n2 → (b.map d64)[i - 1]? = some (d64 y) := fun h => by rw [← hy]; exact map_at d64 0 (by omega)
  have hnext : x = y → ∀ j, i - 1 ≤ j → a.getD j 0 = b.getD j 0 := fun hxy j hj => by
    rcases Nat.eq_or_lt_of_le hj with h3 | h3
    · rw [← h3, hx, hy, hxy]
    · exact hsame j (by omega)
  focus (refine S_seq rfl ?_; refine S_seq rfl ?_; refine S_region rfl rfl ?_; refine R_p rfl ?_ rfl rfl; refine R_p rfl ?_ rfl rfl; refine R_nil ?_; (refine S_if rfl rfl (fun hs => ?_) (fun hs => ?_)); refine S_skip rfl ?_; refine S_seq rfl ?_; refine S_block rfl ?_; refine S_seq rfl ?_; refine S_region rfl rfl ?_; refine R_p rfl ?_ rfl rfl; refine R_p rfl ?_ rfl rfl; refine R_nil ?_; refine S_seq rfl ?_; refine S_seq rfl ?_; refine S_region rfl rfl ?_; refine R_p rfl ?_ rfl rfl; refine R_p rfl ?_ rfl rfl; refine R_p rfl ?_ rfl rfl; refine R_p rfl ?_ rfl rfl; refine R_nil ?_; (refine S_if rfl rfl (fun hs => ?_) (fun hs => ?_)); refine S_region rfl rfl ?_; refine R_p rfl ?_ rfl rfl; refine R_p rfl ?_ rfl rfl; refine R_take (T_subN rfl rfl (by omega) (by unfold fits; omega)) ?_ rfl rfl; refine R_take (T_ixN (q := i - 1) rfl rfl rfl rfl rfl rfl (hneA (by omega)) (by omega)) ?_ rfl rfl; refine R_take (T_loado (j := i - 1) (v := d64 x) rfl rfl rfl h1 (hlx (by omega)) (fun k _ => noOwns k)) ?_ rfl rfl; refine R_p rfl ?_ rfl rfl; refine R_nil ?_; refine S_seq rfl ?_; refine S_seq rfl ?_; refine S_region rfl rfl ?_; refine R_p rfl ?_ rfl rfl; refine R_p rfl ?_ rfl rfl; refine R_p rfl ?_ rfl rfl; refine R_p rfl ?_ rfl rfl; refine R_nil ?_; (refine S_if rfl rfl (fun hs => ?_) (fun hs => ?_)); refine S_region rfl rfl ?_; refine R_p rfl ?_ rfl rfl; refine R_p rfl ?_ rfl rfl; refine R_take (T_subN rfl rfl (by omega) (by unfold fits; omega)) ?_ rfl rfl; refine R_take (T_ixN (q := i - 1) rfl rfl rfl rfl rfl rfl (hneB (by omega)) (by omega)) ?_ rfl rfl; refine R_take (T_loado (j := i - 1) (v := d64 y) rfl rfl rfl h2 (hly (by omega)) (fun k _ => noOwns k)) ?_ rfl rfl; refine R_p rfl ?_ rfl rfl; refine R_nil ?_; refine S_seq rfl ?_; refine S_region rfl rfl ?_; refine R_p rfl ?_ rfl rfl; refine R_p rfl ?_ rfl rfl; refine R_p rfl ?_ rfl rfl; refine R_nil ?_; (refine S_if rfl rfl (fun hs => ?_) (fun hs => ?_)); refine S_seq rfl ?_; refine S_region rfl rfl ?_; refine R_p rfl ?_ rfl rfl; refine R_p rfl ?_ rfl rfl; refine R_p rfl ?_ rfl rfl; refine R_p rfl ?_ rfl rfl; refine R_nil ?_; rotate_left; refine S_skip rfl ?_; refine RS_blk ?_; refine S_region rfl rfl ?_; refine R_p rfl ?_ rfl rfl; refine R_take (T_subN rfl rfl (by omega) (by unfold fits; omega)) ?_ rfl rfl; refine R_p rfl ?_ rfl rfl; refine R_nil ?_; rotate_left; refine S_skip rfl ?_; refine S_seq rfl ?_; refine S_region rfl rfl ?_; refine R_p rfl ?_ rfl rfl; refine R_p rfl ?_ rfl rfl; refine R_p rfl ?_ rfl rfl; refine R_nil ?_; (refine S_if rfl rfl (fun hs => ?_) (fun hs => ?_)); refine S_seq rfl ?_; refine S_region rfl rfl ?_; refine R_p rfl ?_ rfl rfl; refine R_p rfl ?_ rfl rfl; refine R_p rfl ?_ rfl rfl; refine R_p rfl ?_ rfl rfl; refine R_nil ?_; rotate_left; refine S_skip rfl ?_; refine RS_blk ?_; refine S_region rfl rfl ?_; refine R_p rfl ?_ rfl rfl; refine R_take (T_subN rfl rfl (by omega) (by unfold fits; omega)) ?_ rfl rfl; refine R_p rfl ?_ rfl rfl; refine R_nil ?_; rotate_left; refine S_skip rfl ?_; refine S_seq rfl ?_; refine S_seq rfl ?_; refine S_region rfl rfl ?_; refine R_p rfl ?_ rfl rfl; refine R_p rfl ?_ rfl rfl; refine R_p rfl ?_ rfl rfl; refine R_p rfl ?_ rfl rfl; refine R_nil ?_; (refine S_if rfl rfl (fun hs => ?_) (fun hs => ?_)); refine S_region rfl rfl ?_; refine R_p rfl ?_ rfl rfl; refine R_p rfl ?_ rfl rfl; refine R_take (T_subN rfl rfl (by omega) (by unfold fits; omega)) ?_ rfl rfl; refine R_take (T_ixN (q := i - 1) rfl rfl rfl rfl rfl rfl (hneB (by omega)) (by omega)) ?_ rfl rfl; refine R_take (T_loado (j := i - 1) (v := d64 y) rfl rfl rfl h2 (hly (by omega)) (fun k _ => noOwns k)) ?_ rfl rfl; refine R_p rfl ?_ rfl rfl; refine R_nil ?_; refine S_seq rfl ?_; refine S_region rfl rfl ?_; refine R_p rfl ?_ rfl rfl; refine R_p rfl ?_ rfl rfl; refine R_p rfl ?_ rfl rfl; refine R_nil ?_; (refine S_if rfl rfl (fun hs => ?_) (fun hs => ?_)); refine S_seq rfl ?_; refine S_region rfl rfl ?_; refine R_p rfl ?_ rfl rfl; refine R_p rfl ?_ rfl rfl; refine R_p rfl ?_ rfl rfl; refine R_p rfl ?_ rfl rfl; refine R_nil ?_; rotate_left; refine S_skip rfl ?_; refine RS_blk ?_; refine S_region rfl rfl ?_; refine R_p rfl ?_ rfl rfl; refine R_take (T_subN rfl rfl (by omega) (by unfold fits; omega)) ?_ rfl rfl; refine R_p rfl ?_ rfl rfl; refine R_nil ?_; rotate_left; refine S_skip rfl ?_; refine S_seq rfl ?_; refine S_region rfl rfl ?_; refine R_p rfl ?_ rfl rfl; refine R_p rfl ?_ rfl rfl; refine R_p rfl ?_ rfl rfl; refine R_nil ?_; refine S_false rfl rfl ?_; refine S_skip rfl ?_; refine RS_blk ?_; refine S_region rfl rfl ?_; refine R_p rfl ?_ rfl rfl; refine R_take (T_subN rfl rfl (by omega) (by unfold fits; omega)) ?_ rfl rfl; refine R_p rfl ?_ rfl rfl; refine R_nil ?_; rotate_left; refine S_exit rfl rfl ?_; refine S_seq rfl ?_; refine S_region rfl rfl ?_; refine R_p rfl ?_ rfl rfl; refine R_nil ?_; rotate_left)
  all_goals (try (exfalso; omega; done))
  all_goals first
    | (refine hJ (i - 1) _ _ ⟨by omega, hnext (by omega)⟩ (Sub.cons rfl (Sub.cons rfl (Sub.cons rfl Sub.nil))) (fun _ h => h) (by omega); done)
    | (refine hB _ _ _ _ _ rfl rfl fun w' hS => ⟨(), ?_, trivial, hS⟩
       rw [hdiff (by omega)]
       simp only [retv]
       congr 1
       rw [decide_eq_decide]
       omega)

set_option maxRecDepth 100000 in
set_option maxHeartbeats 4000000 in
theorem prime_any (w : World) (n : Nat) (hn : n ≤ 1000) :
    Gives Tryd.prog 43 [.int .u64 (n : Int)] [] w (X := Unit) (fun r => .bool (primeN n)) (fun r => True) (fun r => []) := by
  refine gives_S Tryd.func43 rfl Tryd.ntmps43 Tryd.results43 (by simp) (St.enter w) (fun B hB => ?_)
  focus (refine S_seq rfl ?_; refine S_region rfl rfl ?_; refine R_p rfl ?_ rfl rfl; refine R_nil ?_; refine S_seq rfl ?_; refine S_seq rfl ?_; refine S_region rfl rfl ?_; refine R_p rfl ?_ rfl rfl; refine R_nil ?_; refine S_block rfl ?_)
  refine S_loop (X := Nat) (fun d => [(0, .int .u64 (n : Int)), (3, .int .u64 (d : Int))]) (fun i => []) (fun d => 2 ≤ d ∧ d ≤ 1002 ∧ ∀ e, 2 ≤ e → e < d → n % e ≠ 0) (fun d => 1002 - d) rfl 2 ⟨by decide, by decide, fun e h1 h2 => by omega⟩ (Sub.cons rfl (Sub.cons rfl Sub.nil)) (fun _ h => h) ?_
  rintro d ⟨hd2, hd, hno⟩ J hJ
  have hdd : d * d ≤ 1002 * d := Nat.mul_le_mul_right _ hd
  have hdd2 : 2 * d ≤ d * d := Nat.mul_le_mul_right _ hd2
  focus (refine S_seq rfl ?_; refine S_seq rfl ?_; refine S_region rfl rfl ?_; refine R_p rfl ?_ rfl rfl; refine R_p rfl ?_ rfl rfl; refine R_take (T_mulN (p := d) (q := d) rfl rfl (by unfold fits; omega)) ?_ rfl rfl; refine R_p rfl ?_ rfl rfl; refine R_p rfl ?_ rfl rfl; refine R_nil ?_; (refine S_if rfl rfl (fun hs => ?_) (fun hs => ?_)); refine S_skip rfl ?_; refine S_seq rfl ?_; refine S_block rfl ?_; refine S_seq rfl ?_; refine S_region rfl rfl ?_; refine R_p rfl ?_ rfl rfl; refine R_p rfl ?_ rfl rfl; refine R_take (T_modN (p := n) (q := d) rfl rfl (by omega)) ?_ rfl rfl; refine R_p rfl ?_ rfl rfl; refine R_nil ?_; (refine S_if rfl rfl (fun hs => ?_) (fun hs => ?_)); refine S_seq rfl ?_; refine S_region rfl rfl ?_; refine R_p rfl ?_ rfl rfl; refine R_nil ?_; rotate_left; refine S_skip rfl ?_; refine RS_blk ?_; refine S_region rfl rfl ?_; refine R_p rfl ?_ rfl rfl; refine R_take (T_addN rfl rfl (by unfold fits; omega)) ?_ rfl rfl; refine R_p rfl ?_ rfl rfl; refine R_nil ?_; rotate_left; refine S_exit rfl rfl ?_; refine S_seq rfl ?_; refine S_region rfl rfl ?_; refine R_p rfl ?_ rfl rfl; refine R_p rfl ?_ rfl rfl; refine R_p rfl ?_ rfl rfl; refine R_nil ?_; rotate_left)
  all_goals (try (exfalso; omega; done))
  all_goals first
    | (refine hJ (d + 1) _ _ ⟨by omega, by omega, fun e h1 h2 => ?_⟩ (Sub.cons rfl (Sub.cons rfl Sub.nil)) (fun _ h => h) (by omega); rcases Nat.lt_or_ge e d with h3 | h3; exact hno e h1 h3; obtain rfl : e = d := (by omega); omega; done)
    | (refine hB _ _ _ _ _ rfl rfl fun w' hS => ⟨(), ?_, trivial, hS⟩; rw [primeN_no hd2 (by omega) (by omega)]; rfl)
    | (refine hB _ _ _ _ _ rfl rfl fun w' hS => ⟨(), ?_, trivial, hS⟩; rw [primeN_end (d := d) (by omega) hno]; simp only [retv]; congr 1; rw [decide_eq_decide]; omega)
end Go.Proofs.YtemgfoakffappaaDoor
