/- Digests: the document's words. -/
import Derived.Test.YtemgfoakffappaaDoorSh7
namespace Go.Proofs.YtemgfoakffappaaDoor
open Go.RowKit
open Asn (pt row rb)
set_option linter.unusedVariables false
set_option linter.unusedSimpArgs false
--@use N
section
variable {P : Program} {n : Nat} {w0 : World} {M : Nat → Prop} {T : Slots} {H Hr : List Asn} {dd : Option Tmp} {tt : TypeId} {pos : String} {af : Array Edge} {g : Option (Nat × Bool)} {x y : Operand}
theorem T_wdiv {t u : TypeId} {a b : UInt32} (hx : oget T x = some (.int .u32 (a.toNat : Int))) (hy : oget T y = some (.int .u32 (b.toNat : Int))) (hb : 0 < b.toNat) :
    Tk P n w0 M T H ⟨dd, .binOp .quo t x y u, tt, pos, af, g⟩ (.int .u32 ((a / b).toNat : Int)) := by
  have ha := a.toNat_lt
  have h := T_divN (P := P) (n := n) (w0 := w0) (M := M) (H := H) (dd := dd) (tt := tt) (pos := pos) (af := af) (g := g) (t := t) (u := u) (p := a.toNat) (q := b.toNat) hx hy hb (by unfold fits; exact ⟨Int.natCast_nonneg _, Int.ofNat_le.2 (Nat.le_trans (Nat.div_le_self a.toNat b.toNat) (show a.toNat ≤ 4294967295 by omega))⟩)
  rwa [UInt32.toNat_div]
theorem T_wmod {t u : TypeId} {a b : UInt32} (hx : oget T x = some (.int .u32 (a.toNat : Int))) (hy : oget T y = some (.int .u32 (b.toNat : Int))) (hb : 0 < b.toNat) :
    Tk P n w0 M T H ⟨dd, .binOp .rem t x y u, tt, pos, af, g⟩ (.int .u32 ((a % b).toNat : Int)) := by
  have h := T_modN (P := P) (n := n) (w0 := w0) (M := M) (H := H) (dd := dd) (tt := tt) (pos := pos) (af := af) (g := g) (t := t) (u := u) (p := a.toNat) (q := b.toNat) hx hy hb
  rwa [UInt32.toNat_mod]
/-- by a power of two -/
theorem T_wdiv2 {t u : TypeId} {a : UInt32} {k : Nat} (hx : oget T x = some (.int .u32 (a.toNat : Int))) (hy : oget T y = some (.int .u32 ((2 ^ k : Nat) : Int))) :
    Tk P n w0 M T H ⟨dd, .binOp .quo t x y u, tt, pos, af, g⟩ (.int .u32 ((shr32 a k).toNat : Int)) := by
  have ha := a.toNat_lt
  have h := T_divN (P := P) (n := n) (w0 := w0) (M := M) (H := H) (dd := dd) (tt := tt) (pos := pos) (af := af) (g := g) (t := t) (u := u) (p := a.toNat) (q := 2 ^ k) hx hy (Nat.pow_pos (by decide)) (by unfold fits; exact ⟨Int.natCast_nonneg _, Int.ofNat_le.2 (Nat.le_trans (Nat.div_le_self a.toNat (2 ^ k)) (show a.toNat ≤ 4294967295 by omega))⟩)
  rwa [shr32_nat]
theorem T_buildl {s : TypeId} {xs : Array (Nat × Operand)} {is : List Nat} {us : List Value} {cs : List Value} (hx : ogets T (xs.toList.map (·.2)) = some us) (hi : xs.toList.map (·.1) = is) (hb : P.built s (is.zip us) = some cs.toArray) :
    Tk P n w0 M T H ⟨dd, .build s xs, tt, pos, af, g⟩ (.agg cs.toArray) := .mk fun a w ha hS => by
  have e : (xs.map fun x => (x.1, a.eval x.2)).toList = is.zip us := by
    have h1 := ha.evals hx
    rw [Array.toList_map, ← hi, ← h1]
    simp [List.zip_map']
  have hr := run_build (P := P) w s (xs.map fun x => (x.1, a.eval x.2)) cs.toArray (by rw [e]; exact hb)
  simp only [execOp, Sem.run_bind, hr, Result.andThen_ok, Sem.run_pure]
end
theorem one_shl {n : Nat} (h : n ≤ 31) : (shl32 1 n).toNat = 2 ^ n := by
  rw [shl32_nat, show (1 : UInt32).toNat = 1 from rfl, Nat.one_mul, Nat.mod_eq_of_lt]
  exact Nat.pow_lt_pow_right (by decide) (show n < 32 by omega)
theorem turned_eq (x : UInt32) (n : Nat) (h1 : 1 ≤ n) (h2 : n ≤ 31) : x / shl32 1 n + x % shl32 1 n * shl32 1 (32 - n) = turn x n := by
  apply UInt32.toNat_inj.1
  have hx := x.toNat_lt
  have e1 : (2 : Nat) ^ 32 = 2 ^ n * 2 ^ (32 - n) := by rw [← Nat.pow_add]; congr 1; omega
  have hlt : x.toNat / 2 ^ n < 2 ^ (32 - n) := by
    rw [Nat.div_lt_iff_lt_mul (Nat.pow_pos (by decide)), Nat.mul_comm, ← e1]
    exact hx
  have hm : x.toNat % 2 ^ n < 2 ^ n := Nat.mod_lt _ (Nat.pow_pos (by decide))
  have hb : x.toNat % 2 ^ n * 2 ^ (32 - n) + 2 ^ (32 - n) ≤ 2 ^ 32 := by
    rw [e1]
    have : (x.toNat % 2 ^ n + 1) * 2 ^ (32 - n) ≤ 2 ^ n * 2 ^ (32 - n) := Nat.mul_le_mul_right _ hm
    rwa [Nat.add_mul, Nat.one_mul] at this
  have hp : 0 < 2 ^ (32 - n) := Nat.pow_pos (by decide)
  have hb1 : x.toNat % 2 ^ n * 2 ^ (32 - n) < 2 ^ 32 := Nat.lt_of_lt_of_le (Nat.lt_add_of_pos_right hp) hb
  have hb2 : x.toNat / 2 ^ n + x.toNat % 2 ^ n * 2 ^ (32 - n) < 2 ^ 32 := Nat.lt_of_lt_of_le (by rw [Nat.add_comm]; exact Nat.add_lt_add_left hlt _) hb
  rw [UInt32.toNat_add, UInt32.toNat_mul, UInt32.toNat_div, UInt32.toNat_mod, one_shl (by omega), one_shl (by omega), Nat.mod_eq_of_lt (b := 2 ^ 32) (show x.toNat % 2 ^ n * 2 ^ (32 - n) < 2 ^ 32 from hb1), Nat.mod_eq_of_lt (show x.toNat / 2 ^ n + x.toNat % 2 ^ n * 2 ^ (32 - n) < 2 ^ 32 from hb2)]
  show _ = (shr32 x n ||| shl32 x (32 - n)).toNat
  rw [UInt32.toNat_or, shr32_nat, shl32_nat, show (4294967296 : Nat) = 2 ^ n * 2 ^ (32 - n) by rw [← e1], Nat.mul_mod_mul_right, Nat.or_comm, ← Nat.shiftLeft_eq (x.toNat % 2 ^ n), ← Nat.shiftLeft_add_eq_or_of_lt hlt, Nat.add_comm]

set_option maxRecDepth 100000 in
set_option maxHeartbeats 4000000 in
theorem turned_any (w : World) (x : UInt32) (n : Nat) (h1 : 1 ≤ n) (h2 : n ≤ 31) :
    Gives Tryd.prog 37 [.int .u32 (x.toNat : Int), .int .u64 (n : Int)] [] w (X := Unit) (fun _ => .int .u32 ((turn x n).toNat : Int)) (fun _ => True) (fun x => []) := by
  refine gives_S Tryd.func37 rfl Tryd.ntmps37 Tryd.results37 (by simp) (St.enter w) (fun B hB => ?_)
  have hp : 0 < (shl32 1 n).toNat := by rw [one_shl h2]; exact Nat.pow_pos (by decide)
  focus (refine S_seq rfl ?_; refine S_region rfl rfl ?_; refine R_p rfl ?_ rfl rfl; refine R_nil ?_; refine S_seq rfl ?_; refine S_region rfl rfl ?_; refine R_p rfl ?_ rfl rfl; refine R_p rfl ?_ rfl rfl; refine R_take (T_wshl (a := 1) (q := n) rfl rfl (by omega)) ?_ rfl rfl; refine R_take (T_wmod rfl rfl hp) ?_ rfl rfl; refine R_p rfl ?_ rfl rfl; refine R_nil ?_; refine S_seq rfl ?_; refine S_region rfl rfl ?_; refine R_p rfl ?_ rfl rfl; refine R_p rfl ?_ rfl rfl; refine R_take (T_wshl (a := 1) (q := n) rfl rfl (by omega)) ?_ rfl rfl; refine R_take (T_wdiv rfl rfl hp) ?_ rfl rfl; refine R_p rfl ?_ rfl rfl; refine R_p rfl ?_ rfl rfl; refine R_take (T_subN rfl rfl (by omega) (by unfold fits; omega)) ?_ rfl rfl; refine R_take (T_wshl (a := 1) (q := 32 - n) rfl rfl (by omega)) ?_ rfl rfl; refine R_take (T_w32 rfl rfl rfl) ?_ rfl rfl; refine R_take (T_w32 rfl rfl rfl) ?_ rfl rfl; refine R_p rfl ?_ rfl rfl; refine R_nil ?_)
  rw [turned_eq x n h1 h2]
  exact hB _ _ _ _ _ rfl rfl fun w' hS => ⟨(), rfl, trivial, hS⟩
section
variable {n : Nat} {w0 : World} {M : Nat → Prop} {T : Slots} {H Hr : List Asn} {dd : Option Tmp} {tt : TypeId} {pos : String} {af : Array Edge} {g : Option (Nat × Bool)} {x y z : Operand} {ts : Array TypeId}
theorem E_turned {a : UInt32} {z : Int} (q : Nat) (hx : oget T x = some (.int .u32 (a.toNat : Int))) (hy : oget T y = some (.int .u64 z)) [hz : NatOf z q] (h1 : 1 ≤ q) (h2 : q ≤ 31) :
    Ef Tryd.prog n w0 M T H ⟨dd, .call ⟨.value (.func 37), #[x, y], ts⟩, tt, pos, af, g⟩ (fun u H' => u = .int .u32 ((turn a q).toNat : Int) ∧ H' = H) := by
  rw [hz.is] at hy
  refine (E_gv ⟨_, Tryd.func37, rfl, by kernel_rfl⟩ (vs := [.int .u32 (a.toNat : Int), .int .u64 (q : Int)]) (by simp [ogets, hx, hy]) fun w hS => turned_any w a q h1 h2).mono ?_
  rintro v H' ⟨_, rfl, _, rfl⟩ w hS
  exact ⟨_, _, rfl, ⟨rfl, rfl⟩, hS⟩
theorem E_number {A : Option Addr} {m c : Nat} {l : List UInt8} (hx : oget T x = some (.slice A m c)) (hs : Src w0 M H A m c l) :
    Ef Tryd.prog n w0 M T H ⟨dd, .call ⟨.value (.func 50), #[x], ts⟩, tt, pos, af, g⟩ (fun u H' => u = .int .u64 (num64 l) ∧ H' = H) :=
  E_g0 ⟨_, Tryd.func50, rfl, by kernel_rfl⟩ (vs := [.slice A m c]) (by simp [ogets, hx]) fun w hS => (number_any w A m c l All (hs.bs w hS)).mono fun e w' ⟨he, hw⟩ => ⟨he, hw ▸ Kp.refl _ _⟩
end
theorem num64_4 {l : List UInt8} (h : l.length = 4) : num64 l = (UInt32.ofNat (num l)).toNat := by
  have := num_le l 4 (by omega)
  unfold num64 M64
  rw [UInt32.toNat_ofNat']
  omega
theorem mix2 (x : UInt32) (a b : Nat) : mixW x [a, b] = turn x a ^^^ turn x b := by simp [mixW]
theorem mix3 (x : UInt32) (a b c : Nat) : mixW x [a, b, c] = turn x a ^^^ turn x b ^^^ turn x c := by simp [mixW]
theorem sched_at {l : List UInt8} {t j : Nat} (h : j < t) : ((sched l t).map w32)[j]? = some (w32 ((sched l t).getD j 0)) := map_at w32 0 (by rw [sched_len]; exact h)
theorem sched_next16 {l : List UInt8} {t : Nat} (h : t < 16) : (sched l t).map w32 ++ [.int .u32 ((UInt32.ofNat (num ((l.drop (4 * t)).take 4))).toNat : Int)] = (sched l (t + 1)).map w32 := by
  rw [sched, List.map_append, nextW, if_pos h]
  rfl
theorem sched_next {l : List UInt8} {t : Nat} (h : ¬ t < 16) {v : UInt32} (hv : v = (turn ((sched l t).getD (t - 2) 0) 17 ^^^ turn ((sched l t).getD (t - 2) 0) 19 ^^^ shr32 ((sched l t).getD (t - 2) 0) 10) + (sched l t).getD (t - 7) 0 + (turn ((sched l t).getD (t - 15) 0) 7 ^^^ turn ((sched l t).getD (t - 15) 0) 18 ^^^ shr32 ((sched l t).getD (t - 15) 0) 3) + (sched l t).getD (t - 16) 0) : (sched l t).map w32 ++ [.int .u32 (v.toNat : Int)] = (sched l (t + 1)).map w32 := by
  rw [sched, List.map_append, nextW, if_neg h, mix2, mix2, hv]
  congr 1
  simp only [List.map_cons, List.map_nil, w32]
  congr 4
  ac_rfl
end Go.Proofs.YtemgfoakffappaaDoor
