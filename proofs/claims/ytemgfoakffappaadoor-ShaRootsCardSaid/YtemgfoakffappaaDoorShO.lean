/- Digests: the words of the roots, walked; ShaRoots. -/
import Derived.Test.YtemgfoakffappaaDoorShN
namespace Go.Proofs.YtemgfoakffappaaDoor
open Go.RowKit Go.ChangeShapes Go.WideShapes Go.ChangeAt
open Asn (pt row rb)
set_option linter.unusedVariables false
set_option linter.unusedSimpArgs false
--@use N
section
variable {n : Nat} {w0 : World} {M : Nat → Prop} {T : Slots} {H Hr : List Asn} {dd : Option Tmp} {tt : TypeId} {pos : String} {af : Array Edge} {g : Option (Nat × Bool)} {x y z : Operand} {ts : Array TypeId}
theorem E_times {A : Option Addr} {m c X : Nat} {l : List Nat} {z : Int} (hx : oget T x = some (.slice A m c)) (hy : oget T y = some (.int .u64 z)) [hz : NatOf z X] (hs : Srd w0 M H 1 A m (l.map d64)) (hl : Digs l) (hX : X < 2199023255552) (hm : m ≤ 1000) :
    Ef Tryd.prog n w0 M T H ⟨dd, .call ⟨.value (.func 52), #[x, y], ts⟩, tt, pos, af, g⟩ (fun u H' => ∃ A' m' c' os, (Digs os ∧ val os = val l * X ∧ os.length = m' ∧ m' ≤ m + 3) ∧ u = .slice A' m' c' ∧ H' = row 55 1 A' m' c' (os.map d64) :: H) := by
  rw [hz.is] at hy
  refine (E_gv ⟨_, Tryd.func52, rfl, by kernel_rfl⟩ (vs := [.slice A m c, .int .u64 (X : Int)]) (by simp [ogets, hx, hy]) fun w hS => times_any w A m c l X (hs.rd w hS) hl hX hm).mono ?_
  rintro v H' ⟨r, rfl, hI, rfl⟩ w hS
  exact ⟨_, _, rfl, ⟨r.1, r.2.1, r.2.2.1, r.2.2.2, hI, rfl, rfl⟩, hS⟩
theorem E_above {A1 A2 : Option Addr} {n1 c1 n2 c2 : Nat} {a b : List Nat} (hx : oget T x = some (.slice A1 n1 c1)) (hy : oget T y = some (.slice A2 n2 c2)) (h1 : Srd w0 M H 1 A1 n1 (a.map d64)) (h2 : Srd w0 M H 1 A2 n2 (b.map d64)) (ha : Digs a) (hb : Digs b) (hn1 : n1 ≤ 1000) (hn2 : n2 ≤ 1000) :
    Ef Tryd.prog n w0 M T H ⟨dd, .call ⟨.value (.func 53), #[x, y], ts⟩, tt, pos, af, g⟩ (fun u H' => u = .bool (decide (val b < val a)) ∧ H' = H) := by
  refine (E_gv ⟨_, Tryd.func53, rfl, by kernel_rfl⟩ (vs := [.slice A1 n1 c1, .slice A2 n2 c2]) (by simp [ogets, hx, hy]) fun w hS => above_any w A1 A2 n1 c1 n2 c2 a b (h1.rd w hS) (h2.rd w hS) ha hb hn1 hn2).mono ?_
  rintro v H' ⟨_, rfl, _, rfl⟩ w hS
  exact ⟨_, _, rfl, ⟨rfl, rfl⟩, hS⟩
theorem E_prime {z : Int} {p : Nat} (hx : oget T x = some (.int .u64 z)) [hz : NatOf z p] (hp : p ≤ 1000) :
    Ef Tryd.prog n w0 M T H ⟨dd, .call ⟨.value (.func 43), #[x], ts⟩, tt, pos, af, g⟩ (fun u H' => u = .bool (primeN p) ∧ H' = H) := by
  rw [hz.is] at hx
  refine (E_gv ⟨_, Tryd.func43, rfl, by kernel_rfl⟩ (vs := [.int .u64 (p : Int)]) (by simp [ogets, hx]) fun w hS => prime_any w p hp).mono ?_
  rintro v H' ⟨_, rfl, _, rfl⟩ w hS
  exact ⟨_, _, rfl, ⟨rfl, rfl⟩, hS⟩
end
theorem digs_one {p : Nat} (h : p < 65536) : Digs [p] := fun d hd => by rw [List.mem_singleton.1 hd]; exact h
theorem row_of_lit {w0 w : World} {M : Nat → Prop} {H : List Asn} {e g : Nat} {v : Value} (h : St w0 M (pt g e [v] :: H) w) : St w0 M (row e 1 (some ⟨g, 0, none⟩) 1 1 [v] :: H) w :=
  St.rowOf (e := e) (size := 1) (n := 1) (m := 1) (cs := [v]) h .here (by decide) (by decide) rfl

set_option maxRecDepth 100000 in
set_option maxHeartbeats 4000000 in
theorem root_any (w : World) (p k : Nat) (hp : p ≤ 1000) (hk : k ≤ 3) :
    Gives Tryd.prog 44 [.int .u64 (p : Int), .int .i64 (k : Int)] [] w (X := Unit) (fun r => .int .u32 ((rootW p k).toNat : Int)) (fun r => True) (fun r => []) := by
  refine gives_S Tryd.func44 rfl Tryd.ntmps44 Tryd.results44 (by simp) (St.enter w) (fun B hB => ?_)
  focus (refine S_seq rfl ?_; refine S_region rfl rfl ?_; refine R_p rfl ?_ rfl rfl; refine R_nil ?_; refine S_seq rfl ?_; refine S_region rfl rfl ?_; refine R_p rfl ?_ rfl rfl; (refine R_eff (E_lit1 (vs := [d64 p]) rfl rfl rfl rfl rfl rfl rfl (by simp [d64, Value.oneCell']) (by decide)) ?_ rfl rfl; rintro _ _ ⟨bl1, rfl, rfl⟩); refine R_p rfl ?_ rfl rfl; refine R_nil ?_; refine S_seq rfl ?_; refine S_seq rfl ?_; refine S_region rfl rfl ?_; refine R_p rfl ?_ rfl rfl; refine R_nil ?_; refine S_block rfl ?_)
  refine RS_mem (fun w hS => row_of_lit hS) ?_
  refine S_loop (X := Nat × Option Addr × Nat × Nat × List Nat) (fun s => [(1, .int .i64 (k : Int)), (5, .slice s.2.1 s.2.2.1 s.2.2.2.1), (6, .int .i64 (s.1 : Int))]) (fun s => [row 55 1 s.2.1 s.2.2.1 s.2.2.2.1 (s.2.2.2.2.map d64)])
    (fun s => s.1 ≤ k ∧ Digs s.2.2.2.2 ∧ val s.2.2.2.2 = p * 4294967296 ^ s.1 ∧ s.2.2.1 ≤ 1 + 3 * s.1) (fun s => k - s.1) rfl (0, some ⟨bl1, 0, none⟩, 1, 1, [p]) ⟨Nat.zero_le _, digs_one (by omega), by simp [val], by simp⟩ (Sub.cons rfl (Sub.cons rfl (Sub.cons rfl Sub.nil))) (fun w hS => sub_st (H := [row 55 1 (some ⟨bl1, 0, none⟩) 1 1 [d64 p]]) (H' := [row 55 1 (some ⟨bl1, 0, none⟩) 1 1 [d64 p]]) w hS) ?_
  rintro ⟨i, A3, m3, c3, ms⟩ ⟨hi, hd, hv, hm⟩ J hJ
  dsimp only at hi hd hv hm ⊢
  focus (refine S_seq rfl ?_; refine S_seq rfl ?_; refine S_region rfl rfl ?_; refine R_p rfl ?_ rfl rfl; refine R_p rfl ?_ rfl rfl; refine R_p rfl ?_ rfl rfl; refine R_nil ?_; (refine S_if rfl rfl (fun hs => ?_) (fun hs => ?_)); refine S_skip rfl ?_; refine S_seq rfl ?_; refine S_block rfl ?_; refine S_region rfl rfl ?_; refine R_p rfl ?_ rfl rfl; (refine R_eff (E_times (X := 4294967296) (l := ms) rfl rfl (Srd.row (c := c3)) hd (by decide) (by omega)) ?_ rfl rfl; rintro _ _ ⟨A4, m4, c4, os, ⟨q1, q2, q3, q4⟩, rfl, rfl⟩); refine R_p rfl ?_ rfl rfl; refine R_nil ?_; refine RS_blk ?_; refine S_region rfl rfl ?_; refine R_p rfl ?_ rfl rfl; refine R_take (T_addN rfl rfl (by unfold fits; omega)) ?_ rfl rfl; refine R_p rfl ?_ rfl rfl; refine R_nil ?_; rotate_left; refine S_exit rfl rfl ?_; refine S_seq rfl ?_; refine S_region rfl rfl ?_; refine R_p rfl ?_ rfl rfl; refine R_nil ?_; refine S_seq rfl ?_; refine S_seq rfl ?_; refine S_region rfl rfl ?_; refine R_p rfl ?_ rfl rfl; refine R_nil ?_; refine S_block rfl ?_; rotate_left)
  · exact hJ (i + 1, A4, m4, c4, os) _ _ ⟨by dsimp only; omega, q1, by dsimp only; rw [q2, hv, Nat.pow_succ, Nat.mul_assoc], by dsimp only; omega⟩ (Sub.cons rfl (Sub.cons rfl (Sub.cons rfl Sub.nil))) sub_st (by dsimp only; omega)
  clear hJ
  have hik : i = k := by omega
  rw [hik] at hv
  obtain ⟨Mo, hMo⟩ : ∃ Mo, p * 4294967296 ^ k = Mo := ⟨_, rfl⟩
  rw [hMo] at hv
  refine S_loop (X := Nat) (fun t => [(1, .int .i64 (k : Int)), (5, .slice A3 m3 c3), (7, .int .u64 (rootX p k t : Int)), (8, .int .u64 ((68719476736 / 2 ^ t : Nat) : Int))]) (fun s => [row 55 1 A3 m3 c3 (ms.map d64)])
    (fun t => t ≤ 37 ∧ rootX p k t + 2 * (68719476736 / 2 ^ t) ≤ 137438953472) (fun t => 68719476736 / 2 ^ t) rfl 0 ⟨Nat.zero_le _, by rw [rootX]; decide⟩ (Sub.cons rfl (Sub.cons rfl (Sub.cons rfl (Sub.cons rfl Sub.nil)))) sub_st ?_
  rintro t ⟨ht, hx⟩ J hJ
  have hbit := bit_next t
  have hpos := bit_pos (t := t)
  have hnx : rootX p k (t + 1) = if (rootX p k t + 68719476736 / 2 ^ t) ^ k ≤ Mo then rootX p k t + 68719476736 / 2 ^ t else rootX p k t := by rw [rootX, hMo]
  obtain ⟨x, hxx⟩ : ∃ x, rootX p k t = x := ⟨_, rfl⟩
  obtain ⟨b, hbb⟩ : ∃ b, 68719476736 / 2 ^ t = b := ⟨_, rfl⟩
  have hJ2 := hJ (t + 1)
  rw [hxx, hbb] at hx hnx ⊢
  rw [hbb] at hbit hpos hJ2
  rw [← hbit] at hJ2
  rcases Nat.eq_zero_or_pos b with h0 | h0
  · subst h0
    have ht37 : t = 37 := by omega
    subst ht37
    focus (refine S_seq rfl ?_; refine S_seq rfl ?_; refine S_region rfl rfl ?_; refine R_p rfl ?_ rfl rfl; refine R_take (T_decF rfl (by omega)) ?_ rfl rfl; refine R_nil ?_; refine S_false rfl rfl ?_; refine S_exit rfl rfl ?_; refine S_seq rfl ?_; refine S_region rfl rfl ?_; refine R_p rfl ?_ rfl rfl; refine R_take (T_modN (p := x) (q := 4294967296) rfl rfl (by decide)) ?_ rfl rfl; refine R_take (T_convf rfl rfl rfl rfl (by unfold fits; omega)) ?_ rfl rfl; refine R_p rfl ?_ rfl rfl; refine R_nil ?_)
    refine hB _ _ _ _ _ rfl rfl fun w' hS => ⟨(), ?_, trivial, hS.sublist (List.nil_sublist _)⟩
    rw [rootW, hxx, UInt32.toNat_ofNat']
    rfl
  · have ht36 := hpos.1 h0
    focus (refine S_seq rfl ?_; refine S_seq rfl ?_; refine S_region rfl rfl ?_; refine R_p rfl ?_ rfl rfl; refine R_take (T_decT rfl (by omega)) ?_ rfl rfl; refine R_nil ?_; refine S_true rfl rfl ?_; refine S_skip rfl ?_; refine S_seq rfl ?_; refine S_block rfl ?_; refine S_seq rfl ?_; refine S_region rfl rfl ?_; (refine R_eff (E_lit1 (vs := [d64 1]) rfl rfl rfl rfl rfl rfl rfl (by simp [d64, Value.oneCell']) (by decide)) ?_ rfl rfl; rintro _ _ ⟨bl2, rfl, rfl⟩); refine R_p rfl ?_ rfl rfl; refine R_nil ?_; refine S_seq rfl ?_; refine S_seq rfl ?_; refine S_region rfl rfl ?_; refine R_p rfl ?_ rfl rfl; refine R_nil ?_; refine S_block rfl ?_)
    refine RS_mem (fun w hS => row_of_lit hS) ?_
    refine S_loop (X := Nat × Option Addr × Nat × Nat × List Nat) (fun s => [(1, .int .i64 (k : Int)), (5, .slice A3 m3 c3), (7, .int .u64 (x : Int)), (8, .int .u64 (b : Int)), (9, .slice s.2.1 s.2.2.1 s.2.2.2.1), (10, .int .i64 (s.1 : Int))]) (fun s => [row 55 1 s.2.1 s.2.2.1 s.2.2.2.1 (s.2.2.2.2.map d64), row 55 1 A3 m3 c3 (ms.map d64)])
      (fun s => s.1 ≤ k ∧ Digs s.2.2.2.2 ∧ val s.2.2.2.2 = (x + b) ^ s.1 ∧ s.2.2.1 ≤ 1 + 3 * s.1) (fun s => k - s.1) rfl (0, some ⟨bl2, 0, none⟩, 1, 1, [1]) ⟨Nat.zero_le _, digs_one (by decide), by simp [val], by simp⟩ (Sub.cons rfl (Sub.cons rfl (Sub.cons rfl (Sub.cons rfl (Sub.cons rfl (Sub.cons rfl Sub.nil)))))) (fun w hS => sub_st (H := [row 55 1 (some ⟨bl2, 0, none⟩) 1 1 [d64 1], row 55 1 A3 m3 c3 (ms.map d64)]) (H' := [row 55 1 (some ⟨bl2, 0, none⟩) 1 1 [d64 1], row 55 1 A3 m3 c3 (ms.map d64)]) w hS) ?_
    rintro ⟨j, A5, m5, c5, ps⟩ ⟨hj, pd, pv, pm⟩ J2 hJJ
    dsimp only at hj pd pv pm ⊢
    rcases Nat.lt_or_ge j k with hjk | hjk
    · skip
      focus (refine S_seq rfl ?_; refine S_seq rfl ?_; refine S_region rfl rfl ?_; refine R_p rfl ?_ rfl rfl; refine R_p rfl ?_ rfl rfl; refine R_take (T_decT rfl (by omega)) ?_ rfl rfl; refine R_nil ?_; refine S_true rfl rfl ?_; refine S_skip rfl ?_; refine S_seq rfl ?_; refine S_block rfl ?_; refine S_region rfl rfl ?_; refine R_p rfl ?_ rfl rfl; refine R_p rfl ?_ rfl rfl; refine R_p rfl ?_ rfl rfl; refine R_take (T_addN rfl rfl (by unfold fits; omega)) ?_ rfl rfl; (refine R_eff (E_times (X := x + b) (l := ps) rfl rfl (Srd.row (c := c5)) pd (by omega) (by omega)) ?_ rfl rfl; rintro _ _ ⟨A4, m4, c4, os, ⟨q1, q2, q3, q4⟩, rfl, rfl⟩); refine R_p rfl ?_ rfl rfl; refine R_nil ?_; refine RS_blk ?_; refine S_region rfl rfl ?_; refine R_p rfl ?_ rfl rfl; refine R_take (T_addN rfl rfl (by unfold fits; omega)) ?_ rfl rfl; refine R_p rfl ?_ rfl rfl; refine R_nil ?_)
      exact hJJ (j + 1, A4, m4, c4, os) _ _ ⟨by dsimp only; omega, q1, by dsimp only; rw [q2, pv, Nat.pow_succ], by dsimp only; omega⟩ (Sub.cons rfl (Sub.cons rfl (Sub.cons rfl (Sub.cons rfl (Sub.cons rfl (Sub.cons rfl Sub.nil)))))) sub_st (by dsimp only; omega)
    · have hj2 : j = k := by omega
      rw [hj2] at pv
      by_cases hle : (x + b) ^ k ≤ Mo
      · rw [if_pos hle] at hnx
        rw [hnx] at hJ2
        focus (refine S_seq rfl ?_; refine S_seq rfl ?_; refine S_region rfl rfl ?_; refine R_p rfl ?_ rfl rfl; refine R_p rfl ?_ rfl rfl; refine R_take (T_decF rfl (by omega)) ?_ rfl rfl; refine R_nil ?_; refine S_false rfl rfl ?_; refine S_exit rfl rfl ?_; refine S_seq rfl ?_; refine S_region rfl rfl ?_; refine R_p rfl ?_ rfl rfl; refine R_p rfl ?_ rfl rfl; (refine R_eff (E_above (a := ps) (b := ms) rfl rfl (Srd.row (c := c5)) (Srd.row (c := c3)) pd hd (by omega) (by omega)) ?_ rfl rfl; rintro _ _ ⟨rfl, rfl⟩; rw [pv, hv]); refine R_take (T_notd rfl) ?_ rfl rfl; refine R_nil ?_; (refine S_if rfl rfl (fun hs => ?_) (fun hs => ?_)); refine S_region rfl rfl ?_; refine R_p rfl ?_ rfl rfl; refine R_p rfl ?_ rfl rfl; refine R_take (T_addN rfl rfl (by unfold fits; omega)) ?_ rfl rfl; refine R_p rfl ?_ rfl rfl; refine R_nil ?_; refine RS_blk ?_; refine S_region rfl rfl ?_; refine R_p rfl ?_ rfl rfl; refine R_take (T_divN (p := b) (q := 2) rfl rfl (by decide) (by unfold fits; omega)) ?_ rfl rfl; refine R_p rfl ?_ rfl rfl; refine R_nil ?_; rotate_left; refine S_skip rfl ?_; refine RS_blk ?_; refine S_region rfl rfl ?_; refine R_p rfl ?_ rfl rfl; refine R_take (T_divN (p := b) (q := 2) rfl rfl (by decide) (by unfold fits; omega)) ?_ rfl rfl; refine R_p rfl ?_ rfl rfl; refine R_nil ?_; rotate_left)
        all_goals first | (exfalso; omega; done) | exact hJ2 _ _ ⟨by omega, by omega⟩ (Sub.cons rfl (Sub.cons rfl (Sub.cons rfl (Sub.cons rfl Sub.nil)))) sub_st (by omega)
      · rw [if_neg hle] at hnx
        rw [hnx] at hJ2
        focus (refine S_seq rfl ?_; refine S_seq rfl ?_; refine S_region rfl rfl ?_; refine R_p rfl ?_ rfl rfl; refine R_p rfl ?_ rfl rfl; refine R_take (T_decF rfl (by omega)) ?_ rfl rfl; refine R_nil ?_; refine S_false rfl rfl ?_; refine S_exit rfl rfl ?_; refine S_seq rfl ?_; refine S_region rfl rfl ?_; refine R_p rfl ?_ rfl rfl; refine R_p rfl ?_ rfl rfl; (refine R_eff (E_above (a := ps) (b := ms) rfl rfl (Srd.row (c := c5)) (Srd.row (c := c3)) pd hd (by omega) (by omega)) ?_ rfl rfl; rintro _ _ ⟨rfl, rfl⟩; rw [pv, hv]); refine R_take (T_notd rfl) ?_ rfl rfl; refine R_nil ?_; (refine S_if rfl rfl (fun hs => ?_) (fun hs => ?_)); refine S_region rfl rfl ?_; refine R_p rfl ?_ rfl rfl; refine R_p rfl ?_ rfl rfl; refine R_take (T_addN rfl rfl (by unfold fits; omega)) ?_ rfl rfl; refine R_p rfl ?_ rfl rfl; refine R_nil ?_; refine RS_blk ?_; refine S_region rfl rfl ?_; refine R_p rfl ?_ rfl rfl; refine R_take (T_divN (p := b) (q := 2) rfl rfl (by decide) (by unfold fits; omega)) ?_ rfl rfl; refine R_p rfl ?_ rfl rfl; refine R_nil ?_; rotate_left; refine S_skip rfl ?_; refine RS_blk ?_; refine S_region rfl rfl ?_; refine R_p rfl ?_ rfl rfl; refine R_take (T_divN (p := b) (q := 2) rfl rfl (by decide) (by unfold fits; omega)) ?_ rfl rfl; refine R_p rfl ?_ rfl rfl; refine R_nil ?_; rotate_left)
        all_goals first | (exfalso; omega; done) | exact hJ2 _ _ ⟨by omega, by omega⟩ (Sub.cons rfl (Sub.cons rfl (Sub.cons rfl (Sub.cons rfl Sub.nil)))) sub_st (by omega)
section
variable {n : Nat} {w0 : World} {M : Nat → Prop} {T : Slots} {H Hr : List Asn} {dd : Option Tmp} {tt : TypeId} {pos : String} {af : Array Edge} {g : Option (Nat × Bool)} {x y z : Operand} {ts : Array TypeId}
theorem E_root {z : Int} {p k : Nat} (hx : oget T x = some (.int .u64 z)) [hz : NatOf z p] (hy : oget T y = some (.int .i64 (k : Int))) (hp : p ≤ 1000) (hk : k ≤ 3) :
    Ef Tryd.prog n w0 M T H ⟨dd, .call ⟨.value (.func 44), #[x, y], ts⟩, tt, pos, af, g⟩ (fun u H' => u = .int .u32 ((rootW p k).toNat : Int) ∧ H' = H) := by
  rw [hz.is] at hx
  refine (E_gv ⟨_, Tryd.func44, rfl, by kernel_rfl⟩ (vs := [.int .u64 (p : Int), .int .i64 (k : Int)]) (by simp [ogets, hx, hy]) fun w hS => root_any w p k hp hk).mono ?_
  rintro v H' ⟨_, rfl, _, rfl⟩ w hS
  exact ⟨_, _, rfl, ⟨rfl, rfl⟩, hS⟩
end

set_option maxRecDepth 100000 in
set_option maxHeartbeats 4000000 in
theorem words_any (w : World) (n k : Nat) (hn : n ≤ 64) (hk : k ≤ 3) :
    Gives Tryd.prog 27 [.int .i64 (n : Int), .int .i64 (k : Int)] [] w (X := Option Addr × Nat) (fun r => .slice r.1 n r.2) (fun r => True) (fun r => [row 22 1 r.1 n r.2 (((wl k 312).take n).map w32)]) := by
  refine gives_S Tryd.func27 rfl Tryd.ntmps27 Tryd.results27 (by simp) (St.enter w) (fun B hB => ?_)
  focus (refine S_seq rfl ?_; refine S_region rfl rfl ?_; refine R_p rfl ?_ rfl rfl; refine R_nil ?_; refine S_seq rfl ?_; refine S_region rfl rfl ?_; refine R_p rfl ?_ rfl rfl; refine R_nil ?_; refine S_seq rfl ?_; refine S_seq rfl ?_; refine S_region rfl rfl ?_; refine R_p rfl ?_ rfl rfl; refine R_nil ?_; refine S_block rfl ?_)
  refine RS_mem (fun w hS => hS.nilrow 22 1) ?_
  refine S_loop (X := Nat × Option Addr × Nat × Nat) (fun s => [(0, .int .i64 (n : Int)), (1, .int .i64 (k : Int)), (5, .slice s.2.1 s.2.2.2 s.2.2.1), (6, .int .u64 (s.1 : Int))]) (fun s => [row 22 1 s.2.1 s.2.2.2 s.2.2.1 ((wl k s.1).map w32)])
    (fun s => 2 ≤ s.1 ∧ s.1 ≤ 312 ∧ (wl k s.1).length = s.2.2.2 ∧ s.2.2.2 ≤ n) (fun s => 312 - s.1) rfl (2, none, 0, 0) ⟨by decide, by decide, rfl, Nat.zero_le _⟩ (Sub.cons rfl (Sub.cons rfl (Sub.cons rfl (Sub.cons rfl Sub.nil)))) (fun w hS => sub_st (H := [row 22 1 none 0 0 []]) (H' := [row 22 1 none 0 0 []]) w hS) ?_
  rintro ⟨q, A3, c3, m3⟩ ⟨hq2, hq, hlen, hm⟩ J hJ
  dsimp only at hq2 hq hlen hm ⊢
  rcases Nat.lt_or_ge m3 n with hlt | hge
  · have hq3 : q < 312 := by
      rcases Nat.lt_or_ge q 312 with h | h
      · exact h
      · exfalso
        have e : q = 312 := by omega
        rw [e, wl_len] at hlen
        omega
    have hnx := wl_next k q
    cases hpr : primeN q
    all_goals rw [hpr] at hnx
    · skip
      focus (refine S_seq rfl ?_; refine S_seq rfl ?_; refine S_region rfl rfl ?_; refine R_p rfl ?_ rfl rfl; refine R_p rfl ?_ rfl rfl; refine R_p rfl ?_ rfl rfl; refine R_take (T_decT rfl (by omega)) ?_ rfl rfl; refine R_nil ?_; refine S_true rfl rfl ?_; refine S_skip rfl ?_; refine S_seq rfl ?_; refine S_block rfl ?_; refine S_seq rfl ?_; refine S_region rfl rfl ?_; refine R_p rfl ?_ rfl rfl; (refine R_eff (E_prime (p := q) rfl (by omega)) ?_ rfl rfl; rintro _ _ ⟨rfl, rfl⟩; rw [hpr]); refine R_nil ?_; refine S_false rfl rfl ?_; refine S_skip rfl ?_; refine RS_blk ?_; refine S_region rfl rfl ?_; refine R_p rfl ?_ rfl rfl; refine R_take (T_addN rfl rfl (by unfold fits; omega)) ?_ rfl rfl; refine R_p rfl ?_ rfl rfl; refine R_nil ?_)
      simp only [Bool.false_eq_true, if_false, List.append_nil] at hnx
      exact hJ (q + 1, A3, c3, m3) _ _ ⟨by dsimp only; omega, by dsimp only; omega, by dsimp only; rw [hnx]; exact hlen, hm⟩ (Sub.cons rfl (Sub.cons rfl (Sub.cons rfl (Sub.cons rfl Sub.nil)))) (by dsimp only; rw [hnx]; exact sub_st) (by dsimp only; omega)
    · skip
      focus (refine S_seq rfl ?_; refine S_seq rfl ?_; refine S_region rfl rfl ?_; refine R_p rfl ?_ rfl rfl; refine R_p rfl ?_ rfl rfl; refine R_p rfl ?_ rfl rfl; refine R_take (T_decT rfl (by omega)) ?_ rfl rfl; refine R_nil ?_; refine S_true rfl rfl ?_; refine S_skip rfl ?_; refine S_seq rfl ?_; refine S_block rfl ?_; refine S_seq rfl ?_; refine S_region rfl rfl ?_; refine R_p rfl ?_ rfl rfl; (refine R_eff (E_prime (p := q) rfl (by omega)) ?_ rfl rfl; rintro _ _ ⟨rfl, rfl⟩; rw [hpr]); refine R_nil ?_; refine S_true rfl rfl ?_; refine S_region rfl rfl ?_; refine R_p rfl ?_ rfl rfl; refine R_p rfl ?_ rfl rfl; refine R_p rfl ?_ rfl rfl; (refine R_eff (E_root (p := q) (k := k) rfl rfl (by omega) hk) ?_ rfl rfl; rintro _ _ ⟨rfl, rfl⟩); (refine R_eff (E_lit1 (vs := [w32 (rootW q k)]) rfl rfl rfl rfl rfl rfl rfl (by simp [w32, Value.oneCell']) (by decide)) ?_ rfl rfl; rintro _ _ ⟨bl1, rfl, rfl⟩); (refine R_eff (E_app1 (m2 := 1) (news := [w32 (rootW q k)]) rfl rfl rfl rfl rfl rfl rfl (Srd.pt rfl (fun j v h => by simpa using h)) (by simp [w32, Value.oneCell']) (by simp only [ti22]; omega) (by unfold maxLen; omega)) ?_ rfl rfl; rintro _ _ ⟨A4, c4, rfl, rfl⟩); refine R_p rfl ?_ rfl rfl; refine R_nil ?_; refine RS_blk ?_; refine S_region rfl rfl ?_; refine R_p rfl ?_ rfl rfl; refine R_take (T_addN rfl rfl (by unfold fits; omega)) ?_ rfl rfl; refine R_p rfl ?_ rfl rfl; refine R_nil ?_)
      simp only [if_true] at hnx
      exact hJ (q + 1, A4, c4, m3 + 1) _ _ ⟨by dsimp only; omega, by dsimp only; omega, by dsimp only; rw [hnx, List.length_append, hlen]; rfl, by dsimp only; omega⟩ (Sub.cons rfl (Sub.cons rfl (Sub.cons rfl (Sub.cons rfl Sub.nil)))) (by dsimp only; rw [hnx, List.map_append, List.map_cons, List.map_nil]; exact sub_st) (by dsimp only; omega)
  · skip
    focus (refine S_seq rfl ?_; refine S_seq rfl ?_; refine S_region rfl rfl ?_; refine R_p rfl ?_ rfl rfl; refine R_p rfl ?_ rfl rfl; refine R_p rfl ?_ rfl rfl; refine R_take (T_decF rfl (by omega)) ?_ rfl rfl; refine R_nil ?_; refine S_false rfl rfl ?_; refine S_exit rfl rfl ?_; refine S_seq rfl ?_; refine S_region rfl rfl ?_; refine R_p rfl ?_ rfl rfl; refine R_p rfl ?_ rfl rfl; refine R_nil ?_)
    have hmn : m3 = n := by omega
    subst hmn
    have htk := wl_take (k := k) hq
    rw [hlen] at htk
    rw [htk]
    exact hB _ _ _ _ _ rfl rfl fun w' hS => ⟨(A3, c3), rfl, trivial, hS⟩
section
variable {n : Nat} {w0 : World} {M : Nat → Prop} {T : Slots} {H Hr : List Asn} {dd : Option Tmp} {tt : TypeId} {pos : String} {af : Array Edge} {g : Option (Nat × Bool)} {x y z : Operand} {ts : Array TypeId}
theorem E_words {z z2 : Int} {m k : Nat} (hx : oget T x = some (.int .i64 z)) [hz : NatOf z m] (hy : oget T y = some (.int .i64 z2)) [hz2 : NatOf z2 k] (hm : m ≤ 64) (h0 : 0 < m) (hk : k ≤ 3) :
    Ef Tryd.prog n w0 M T H ⟨dd, .call ⟨.value (.func 27), #[x, y], ts⟩, tt, pos, af, g⟩ (fun u H' => ∃ A' c', A' ≠ none ∧ u = .slice A' m c' ∧ H' = row 22 1 A' m c' (((wl k 312).take m).map w32) :: H) := by
  rw [hz.is] at hx
  rw [hz2.is] at hy
  refine (E_gv ⟨_, Tryd.func27, rfl, by kernel_rfl⟩ (vs := [.int .i64 (m : Int), .int .i64 (k : Int)]) (by simp [ogets, hx, hy]) fun w hS => words_any w m k hm hk).mono ?_
  rintro v H' ⟨r, rfl, _, rfl⟩ w hS
  exact ⟨_, _, rfl, ⟨r.1, r.2, (row_facts (hS.at_ (A := row 22 1 r.1 m r.2 (((wl k 312).take m).map w32)) (by simp))).2.2.1 h0, rfl, rfl⟩, hS⟩
end
end Go.Proofs.YtemgfoakffappaaDoor
