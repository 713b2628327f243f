/- Digests: the document's block. -/
import Derived.Test.YtemgfoakffappaaDoorSh9
namespace Go.Proofs.YtemgfoakffappaaDoor
open Go.RowKit
open Asn (pt row rb)
set_option linter.unusedVariables false
set_option linter.unusedSimpArgs false
--@use N
theorem u32_ext {a b : UInt32} (h : ∀ i, a.toBitVec.getLsbD i = b.toBitVec.getLsbD i) : a = b := by
  apply UInt32.toBitVec_inj.1
  apply BitVec.eq_of_getLsbD_eq
  intro i _
  exact h i
theorem not_sub (e : UInt32) : 4294967295 - e = ~~~e := by
  apply UInt32.toNat_inj.1
  have := e.toNat_lt
  rw [UInt32.toNat_sub, UInt32.toNat_not]
  show (2 ^ 32 - e.toNat + 4294967295) % 2 ^ 32 = 2 ^ 32 - 1 - e.toNat
  omega
theorem ch_eq (e f g : UInt32) : (e &&& f ||| (4294967295 - e) &&& g) = g ^^^ (e &&& (f ^^^ g)) := by
  rw [not_sub]
  apply u32_ext
  intro i
  simp only [UInt32.toBitVec_or, UInt32.toBitVec_and, UInt32.toBitVec_xor, UInt32.toBitVec_not, BitVec.getLsbD_or, BitVec.getLsbD_and, BitVec.getLsbD_xor, BitVec.getLsbD_not]
  by_cases hi : i < 32
  · cases e.toBitVec.getLsbD i <;> cases f.toBitVec.getLsbD i <;> cases g.toBitVec.getLsbD i <;> simp [hi]
  · have h : ∀ x : UInt32, x.toBitVec.getLsbD i = false := fun x => BitVec.getLsbD_of_ge _ _ (by omega)
    simp [h]
theorem maj_eq (a b c : UInt32) : (a &&& b ||| a &&& c ||| b &&& c) = (a &&& b ||| c &&& (a ||| b)) := by
  apply u32_ext
  intro i
  simp only [UInt32.toBitVec_or, UInt32.toBitVec_and, BitVec.getLsbD_or, BitVec.getLsbD_and]
  cases a.toBitVec.getLsbD i <;> cases b.toBitVec.getLsbD i <;> cases c.toBitVec.getLsbD i <;> rfl
theorem T_sub32 {P : Program} {n : Nat} {w0 : World} {M : Nat → Prop} {T : Slots} {H : List Asn} {dd : Option Tmp} {tt : TypeId} {pos : String} {af : Array Edge} {g : Option (Nat × Bool)} {y : Operand} {t u : TypeId} {b : UInt32} (hy : oget T y = some (.int .u32 (b.toNat : Int))) :
    Tk P n w0 M T H ⟨dd, .binOp .sub t (.const (.int .u32 4294967295)) y u, tt, pos, af, g⟩ (.int .u32 ((4294967295 - b).toNat : Int)) := T_w32 (a := 4294967295) (b := b) rfl hy rfl
theorem len8 (a b c d e f g h : UInt32) : ([a, b, c, d, e, f, g, h].map w32).length = 8 := rfl
theorem w8_built (a b c d e f g h : UInt32) : Tryd.prog.built 23 ([0, 1, 2, 3, 4, 5, 6, 7].zip [w32 a, w32 b, w32 c, w32 d, w32 e, w32 f, w32 g, w32 h]) = some ([a, b, c, d, e, f, g, h].map w32).toArray := by kernel_rfl
section
variable {n : Nat} {w0 : World} {M : Nat → Prop} {T : Slots} {H Hr : List Asn} {dd : Option Tmp} {tt : TypeId} {pos : String} {af : Array Edge} {g : Option (Nat × Bool)} {x y z : Operand} {ts : Array TypeId}
theorem E_out {A : Option Addr} {m c : Nat} {l : List UInt8} (hx : oget T x = some (.slice A m c)) (hs : Src w0 M H A m c l) (hl : l.length = 64) :
    Ef Tryd.prog n w0 M T H ⟨dd, .call ⟨.value (.func 36), #[x], ts⟩, tt, pos, af, g⟩ (fun u H' => ∃ A' c', A' ≠ none ∧ u = .slice A' 64 c' ∧ H' = row 22 1 A' 64 c' ((sched l 64).map w32) :: H) := by
  refine (E_gv ⟨_, Tryd.func36, rfl, by kernel_rfl⟩ (vs := [.slice A m c]) (by simp [ogets, hx]) fun w hS => out_any w A m c l All (hs.bs w hS) hl).mono ?_
  rintro v H' ⟨x, rfl, _, rfl⟩ w hS
  exact ⟨_, _, rfl, ⟨x.1, x.2, (row_facts (hS.at_ (A := row 22 1 x.1 64 x.2 ((sched l 64).map w32)) (by simp))).2.2.1 (by decide), rfl, rfl⟩, hS⟩
end

set_option maxRecDepth 100000 in
set_option maxHeartbeats 4000000 in
theorem refinto_any (w : World) (h : List UInt32) (lh : h.length = 8) (A : Option Addr) (n c : Nat) (l : List UInt8) (F : Nat → Prop) (hA : Bs w F A n c l) (hl : l.length = 64) (Ak : Option Addr) (ck : Nat) (hK : Rd w All 1 Ak 64 (rootsL.map w32)) :
    Gives Tryd.prog 12 [.agg (h.map w32).toArray, .slice A n c, .slice Ak 64 ck] [] w (X := Unit) (fun x => .agg ((blockW h l).map w32).toArray) (fun _ => True) (fun x => []) := by
  refine gives_C Tryd.func12 rfl Tryd.ntmps12 Tryd.results12 (by simp) (St.enter w) (fun B hB => ?_)
  have lh2 : (h.map w32).length = 8 := by simpa using lh
  have hneK : Ak ≠ none := by obtain ⟨ad, rfl, _⟩ := hK.2 (by decide); simp
  focus (refine S_seq rfl ?_; refine S_region rfl rfl ?_; (refine R_eff (E_boxa rfl) ?_ rfl rfl; rintro _ _ ⟨b3, rfl, rfl⟩); (refine R_eff (E_alloca rfl z8_alloc) ?_ rfl rfl; rintro _ _ ⟨_, rfl, rfl⟩); refine R_nil ?_; refine S_seq rfl ?_; refine S_region rfl rfl ?_; refine R_p rfl ?_ rfl rfl; (refine R_eff (E_out rfl (Src.old hA fun k _ => noOwns k) hl) ?_ rfl rfl; rintro _ _ ⟨A7, c7, hne7, rfl, rfl⟩); refine R_p rfl ?_ rfl rfl; refine R_nil ?_; refine S_seq rfl ?_; refine S_region rfl rfl ?_; refine R_take (T_loada (ds := h.map w32) rfl rfl rfl lh2 (fun j v h => by simpa using h)) ?_ rfl rfl; (refine R_eff (E_alloca rfl z8_alloc) ?_ rfl rfl; rintro _ _ ⟨_, rfl, rfl⟩); (refine R_eff0 (E_storew (ds := h.map w32) (cs := List.replicate 8 (.int .u32 0)) rfl rfl rfl lh2 (w32_ones _) lh2.symm) ?_ rfl; rintro _ _ rfl); refine R_nil ?_; refine S_seq rfl ?_; refine S_seq rfl ?_; refine S_region rfl rfl ?_; refine R_p rfl ?_ rfl rfl; refine R_nil ?_; refine S_block rfl ?_)
  rename_i b6 b8 _
  refine S_loop (X := Nat) (fun t => [(2, .slice Ak 64 ck), (3, .pointer (some ⟨b3, 0, none⟩)), (6, .pointer (some ⟨b6, 0, none⟩)), (7, .slice A7 64 c7), (8, .pointer (some ⟨b8, 0, none⟩)), (9, .int .i64 (t : Int))]) (fun t => [pt b8 23 ((rounds rootsL (sched l 64) h t).map w32), row 22 1 A7 64 c7 ((sched l 64).map w32), pt b6 23 (List.replicate 8 (.int .u32 0)), pt b3 23 (h.map w32)]) (fun t => t ≤ 64) (fun t => 64 - t) rfl 0 (Nat.zero_le _) (Sub.cons rfl (Sub.cons rfl (Sub.cons rfl (Sub.cons rfl (Sub.cons rfl (Sub.cons rfl Sub.nil)))))) (by rw [show rounds rootsL (sched l 64) h 0 = h from rfl]; exact sub_st) ?_
  intro t ht J hJ
  obtain ⟨r0, r1, r2, r3, r4, r5, r6, r7, hR⟩ := eight (rounds_len (ks := rootsL) (ws := sched l 64) lh t)
  rw [hR]
  have hnext := hJ (t + 1)
  simp only [rounds, hR, rnd] at hnext
  focus (refine S_seq rfl ?_; refine S_seq rfl ?_; refine S_region rfl rfl ?_; refine R_p rfl ?_ rfl rfl; refine R_p rfl ?_ rfl rfl; refine R_nil ?_; (refine S_if rfl rfl (fun hs => ?_) (fun hs => ?_)); refine S_skip rfl ?_; refine S_seq rfl ?_; refine S_block rfl ?_; refine S_seq rfl ?_; refine S_region rfl rfl ?_; refine R_take (T_ixaN rfl rfl rfl rfl rfl rfl (by omega)) ?_ rfl rfl; refine R_take (T_load rfl rfl rfl rfl) ?_ rfl rfl; refine R_p rfl ?_ rfl rfl; refine R_nil ?_; refine S_seq rfl ?_; rotate_left; refine S_exit rfl rfl ?_; refine S_seq rfl ?_; refine S_seq rfl ?_; refine S_region rfl rfl ?_; refine R_p rfl ?_ rfl rfl; refine R_nil ?_; refine S_block rfl ?_; rotate_left)
  · skip
    refine S_draw ([pt b8 23 ([r0, r1, r2, r3, r4, r5, r6, r7].map w32), row 22 1 A7 64 c7 ((sched l 64).map w32)]) sub_st (by kernel_rfl) rfl (by kernel_rfl) (by kernel_rfl : _ = 33) ?_
    refine D_take 0 rfl (T_ixaN rfl rfl rfl rfl rfl rfl (by omega)) ?_ rfl rfl (by kernel_rfl) (by kernel_rfl)
    refine D_take 1 rfl (T_load rfl rfl rfl rfl) ?_ rfl rfl (by kernel_rfl) (by kernel_rfl)
    refine D_take 2 rfl (pev_ok rfl) ?_ rfl rfl (by kernel_rfl) (by kernel_rfl)
    refine D_take 4 rfl (pev_ok rfl) ?_ rfl rfl (by kernel_rfl) (by kernel_rfl)
    refine D_take 7 rfl (pev_ok rfl) ?_ rfl rfl (by kernel_rfl) (by kernel_rfl)
    refine D_take 11 rfl (pev_ok rfl) ?_ rfl rfl (by kernel_rfl) (by kernel_rfl)
    refine D_take 12 rfl (T_ixaN rfl rfl rfl rfl rfl rfl (by omega)) ?_ rfl rfl (by kernel_rfl) (by kernel_rfl)
    refine D_take 13 rfl (T_load rfl rfl rfl rfl) ?_ rfl rfl (by kernel_rfl) (by kernel_rfl)
    refine D_take 14 rfl (T_w32 rfl rfl rfl) ?_ rfl rfl (by kernel_rfl) (by kernel_rfl)
    refine D_take 15 rfl (pev_ok rfl) ?_ rfl rfl (by kernel_rfl) (by kernel_rfl)
    refine D_take 16 rfl (T_sub32 rfl) ?_ rfl rfl (by kernel_rfl) (by kernel_rfl)
    refine D_take 17 rfl (T_ixaN rfl rfl rfl rfl rfl rfl (by omega)) ?_ rfl rfl (by kernel_rfl) (by kernel_rfl)
    refine D_take 18 rfl (T_load rfl rfl rfl rfl) ?_ rfl rfl (by kernel_rfl) (by kernel_rfl)
    refine D_take 19 rfl (T_w32 rfl rfl rfl) ?_ rfl rfl (by kernel_rfl) (by kernel_rfl)
    refine D_take 20 rfl (T_w32 rfl rfl rfl) ?_ rfl rfl (by kernel_rfl) (by kernel_rfl)
    refine D_take 22 rfl (pev_ok rfl) ?_ rfl rfl (by kernel_rfl) (by kernel_rfl)
    refine D_take 23 rfl (pev_ok rfl) ?_ rfl rfl (by kernel_rfl) (by kernel_rfl)
    refine D_take 24 rfl (T_ixN rfl rfl rfl rfl rfl rfl (by first | assumption | exact hne (by omega) | exact hne2 (by omega)) (by omega)) ?_ rfl rfl (by kernel_rfl) (by kernel_rfl)
    (refine D_take 25 rfl (T_loado (j := t) (v := w32 (rootsL.getD t 0)) rfl rfl rfl hK (map_at w32 0 (by rw [roots_len]; omega)) (fun k _ => noOwns k)) ?_ rfl rfl (by kernel_rfl) (by kernel_rfl))
    refine D_take 27 rfl (pev_ok rfl) ?_ rfl rfl (by kernel_rfl) (by kernel_rfl)
    refine D_take 28 rfl (pev_ok rfl) ?_ rfl rfl (by kernel_rfl) (by kernel_rfl)
    refine D_take 29 rfl (T_ixN rfl rfl rfl rfl rfl rfl (by first | assumption | exact hne (by omega) | exact hne2 (by omega)) (by omega)) ?_ rfl rfl (by kernel_rfl) (by kernel_rfl)
    refine D_take 30 rfl (T_ldr (sz := 1) (m := 64) (v := w32 ((sched l 64).getD t 0)) rfl rfl rfl (Srd.row (c := c7)) (by decide) (sched_at (by omega))) ?_ rfl rfl (by kernel_rfl) (by kernel_rfl)
    refine D_one 3 rfl (E_turned 6 rfl rfl (by decide) (by decide)) ?_ rfl rfl (by kernel_rfl)
    rintro _ _ ⟨rfl, rfl⟩
    refine Nx_same sub_st ?_
    refine D_one 5 rfl (E_turned 11 rfl rfl (by decide) (by decide)) ?_ rfl rfl (by kernel_rfl)
    rintro _ _ ⟨rfl, rfl⟩
    refine Nx_same sub_st ?_
    refine D_take 6 rfl (T_w32 rfl rfl rfl) ?_ rfl rfl (by kernel_rfl) (by kernel_rfl)
    refine D_one 8 rfl (E_turned 25 rfl rfl (by decide) (by decide)) ?_ rfl rfl (by kernel_rfl)
    rintro _ _ ⟨rfl, rfl⟩
    refine Nx_same sub_st ?_
    refine D_take 9 rfl (T_w32 rfl rfl rfl) ?_ rfl rfl (by kernel_rfl) (by kernel_rfl)
    refine D_take 10 rfl (T_w32 rfl rfl rfl) ?_ rfl rfl (by kernel_rfl) (by kernel_rfl)
    refine D_take 21 rfl (T_w32 rfl rfl rfl) ?_ rfl rfl (by kernel_rfl) (by kernel_rfl)
    refine D_take 26 rfl (T_w32 rfl rfl rfl) ?_ rfl rfl (by kernel_rfl) (by kernel_rfl)
    refine D_take 31 rfl (T_w32 rfl rfl rfl) ?_ rfl rfl (by kernel_rfl) (by kernel_rfl)
    refine D_take 32 rfl (pev_ok rfl) ?_ rfl rfl (by kernel_rfl) (by kernel_rfl)
    refine D_done ?_ (by kernel_rfl)
    skip
    focus (refine S_seq rfl ?_; refine S_region rfl rfl ?_; refine R_take (T_ixaN rfl rfl rfl rfl rfl rfl (by omega)) ?_ rfl rfl; refine R_take (T_load rfl rfl rfl rfl) ?_ rfl rfl; refine R_p rfl ?_ rfl rfl; refine R_nil ?_; refine S_seq rfl ?_)
    refine S_draw ([pt b8 23 ([r0, r1, r2, r3, r4, r5, r6, r7].map w32)]) sub_st (by kernel_rfl) rfl (by kernel_rfl) (by kernel_rfl : _ = 25) ?_
    refine D_take 0 rfl (pev_ok rfl) ?_ rfl rfl (by kernel_rfl) (by kernel_rfl)
    refine D_take 2 rfl (pev_ok rfl) ?_ rfl rfl (by kernel_rfl) (by kernel_rfl)
    refine D_take 5 rfl (pev_ok rfl) ?_ rfl rfl (by kernel_rfl) (by kernel_rfl)
    refine D_take 8 rfl (pev_ok rfl) ?_ rfl rfl (by kernel_rfl) (by kernel_rfl)
    refine D_take 9 rfl (T_ixaN rfl rfl rfl rfl rfl rfl (by omega)) ?_ rfl rfl (by kernel_rfl) (by kernel_rfl)
    refine D_take 10 rfl (T_load rfl rfl rfl rfl) ?_ rfl rfl (by kernel_rfl) (by kernel_rfl)
    refine D_take 11 rfl (T_w32 rfl rfl rfl) ?_ rfl rfl (by kernel_rfl) (by kernel_rfl)
    refine D_take 12 rfl (pev_ok rfl) ?_ rfl rfl (by kernel_rfl) (by kernel_rfl)
    refine D_take 13 rfl (T_ixaN rfl rfl rfl rfl rfl rfl (by omega)) ?_ rfl rfl (by kernel_rfl) (by kernel_rfl)
    refine D_take 14 rfl (T_load rfl rfl rfl rfl) ?_ rfl rfl (by kernel_rfl) (by kernel_rfl)
    refine D_take 15 rfl (T_w32 rfl rfl rfl) ?_ rfl rfl (by kernel_rfl) (by kernel_rfl)
    refine D_take 16 rfl (T_w32 rfl rfl rfl) ?_ rfl rfl (by kernel_rfl) (by kernel_rfl)
    refine D_take 17 rfl (T_ixaN rfl rfl rfl rfl rfl rfl (by omega)) ?_ rfl rfl (by kernel_rfl) (by kernel_rfl)
    refine D_take 18 rfl (T_load rfl rfl rfl rfl) ?_ rfl rfl (by kernel_rfl) (by kernel_rfl)
    refine D_take 19 rfl (T_ixaN rfl rfl rfl rfl rfl rfl (by omega)) ?_ rfl rfl (by kernel_rfl) (by kernel_rfl)
    refine D_take 20 rfl (T_load rfl rfl rfl rfl) ?_ rfl rfl (by kernel_rfl) (by kernel_rfl)
    refine D_take 21 rfl (T_w32 rfl rfl rfl) ?_ rfl rfl (by kernel_rfl) (by kernel_rfl)
    refine D_take 22 rfl (T_w32 rfl rfl rfl) ?_ rfl rfl (by kernel_rfl) (by kernel_rfl)
    refine D_one 1 rfl (E_turned 2 rfl rfl (by decide) (by decide)) ?_ rfl rfl (by kernel_rfl)
    rintro _ _ ⟨rfl, rfl⟩
    refine Nx_same sub_st ?_
    refine D_one 3 rfl (E_turned 13 rfl rfl (by decide) (by decide)) ?_ rfl rfl (by kernel_rfl)
    rintro _ _ ⟨rfl, rfl⟩
    refine Nx_same sub_st ?_
    refine D_take 4 rfl (T_w32 rfl rfl rfl) ?_ rfl rfl (by kernel_rfl) (by kernel_rfl)
    refine D_one 6 rfl (E_turned 22 rfl rfl (by decide) (by decide)) ?_ rfl rfl (by kernel_rfl)
    rintro _ _ ⟨rfl, rfl⟩
    refine Nx_same sub_st ?_
    refine D_take 7 rfl (T_w32 rfl rfl rfl) ?_ rfl rfl (by kernel_rfl) (by kernel_rfl)
    refine D_take 23 rfl (T_w32 rfl rfl rfl) ?_ rfl rfl (by kernel_rfl) (by kernel_rfl)
    refine D_take 24 rfl (pev_ok rfl) ?_ rfl rfl (by kernel_rfl) (by kernel_rfl)
    refine D_done ?_ (by kernel_rfl)
    skip
    focus (refine S_region rfl rfl ?_; refine R_p rfl ?_ rfl rfl; refine R_p rfl ?_ rfl rfl; refine R_take (T_w32 rfl rfl rfl) ?_ rfl rfl; refine R_take (T_ixaN rfl rfl rfl rfl rfl rfl (by omega)) ?_ rfl rfl; refine R_take (T_load rfl rfl rfl rfl) ?_ rfl rfl; refine R_take (T_ixaN rfl rfl rfl rfl rfl rfl (by omega)) ?_ rfl rfl; refine R_take (T_load rfl rfl rfl rfl) ?_ rfl rfl; refine R_take (T_ixaN rfl rfl rfl rfl rfl rfl (by omega)) ?_ rfl rfl; refine R_take (T_load rfl rfl rfl rfl) ?_ rfl rfl; refine R_take (T_ixaN rfl rfl rfl rfl rfl rfl (by omega)) ?_ rfl rfl; refine R_take (T_load rfl rfl rfl rfl) ?_ rfl rfl; refine R_p rfl ?_ rfl rfl; refine R_take (T_w32 rfl rfl rfl) ?_ rfl rfl; refine R_take (T_ixaN rfl rfl rfl rfl rfl rfl (by omega)) ?_ rfl rfl; refine R_take (T_load rfl rfl rfl rfl) ?_ rfl rfl; refine R_take (T_ixaN rfl rfl rfl rfl rfl rfl (by omega)) ?_ rfl rfl; refine R_take (T_load rfl rfl rfl rfl) ?_ rfl rfl; refine R_take (T_ixaN rfl rfl rfl rfl rfl rfl (by omega)) ?_ rfl rfl; refine R_take (T_load rfl rfl rfl rfl) ?_ rfl rfl)
    refine R_take (T_buildl (is := [0, 1, 2, 3, 4, 5, 6, 7]) (us := [w32 _, w32 _, w32 _, w32 _, w32 _, w32 _, w32 _, w32 _]) rfl rfl (w8_built _ _ _ _ _ _ _ _)) ?_ rfl rfl
    refine R_eff0 (E_storew (cs := [r0, r1, r2, r3, r4, r5, r6, r7].map w32) rfl rfl rfl (len8 _ _ _ _ _ _ _ _) (w32_ones _) ((len8 _ _ _ _ _ _ _ _).trans (len8 _ _ _ _ _ _ _ _).symm)) ?_ rfl
    rintro _ _ rfl
    focus (refine R_nil ?_; refine RS_blk ?_; refine S_region rfl rfl ?_; refine R_p rfl ?_ rfl rfl; refine R_take (T_addN rfl rfl (by unfold fits; omega)) ?_ rfl rfl; refine R_p rfl ?_ rfl rfl; refine R_nil ?_)
    rw [maj_eq, ch_eq, ← mix3, ← mix3]
    exact hnext _ _ (by omega) (Sub.cons rfl (Sub.cons rfl (Sub.cons rfl (Sub.cons rfl (Sub.cons rfl (Sub.cons rfl Sub.nil)))))) sub_st (by omega)
  obtain rfl : t = 64 := by omega
  have hR2 : ([r0, r1, r2, r3, r4, r5, r6, r7]).map w32 = (rounds rootsL (sched l 64) h 64).map w32 := by rw [hR]
  rw [hR2]
  obtain ⟨R, hRR⟩ : ∃ R, R = rounds rootsL (sched l 64) h 64 := ⟨_, rfl⟩
  have lR : R.length = 8 := by rw [hRR]; exact rounds_len lh 64
  have lR2 : (R.map w32).length = 8 := by simpa using lR
  rw [← hRR]
  clear hnext hJ hR2
  refine S_loop (X := Nat) (fun j => [(3, .pointer (some ⟨b3, 0, none⟩)), (6, .pointer (some ⟨b6, 0, none⟩)), (8, .pointer (some ⟨b8, 0, none⟩)), (14, .int .i64 (j : Int))]) (fun j => [pt b3 23 (pre (fun i => w32 (h.getD i 0 + R.getD i 0)) (fun i => w32 (h.getD i 0)) 8 j), pt b8 23 (R.map w32), pt b6 23 (List.replicate 8 (.int .u32 0))]) (fun t => t ≤ 8) (fun t => 8 - t) rfl 0 (Nat.zero_le _) (Sub.cons rfl (Sub.cons rfl (Sub.cons rfl (Sub.cons rfl Sub.nil)))) (by rw [pre_0, ← map_range w32 0 lh]; exact sub_st) ?_
  intro j hj J hJ
  have e : (List.range 8).map (fun i => w32 (h.getD i 0 + R.getD i 0)) = (blockW h l).map w32 := by rw [blockW, hRR, List.map_map]; rfl
  have lb2 : ((blockW h l).map w32).length = 8 := by simp [blockW_len]
  focus (refine S_seq rfl ?_; refine S_seq rfl ?_; refine S_region rfl rfl ?_; refine R_p rfl ?_ rfl rfl; refine R_p rfl ?_ rfl rfl; refine R_nil ?_; (refine S_if rfl rfl (fun hs => ?_) (fun hs => ?_)); refine S_skip rfl ?_; refine S_seq rfl ?_; refine S_block rfl ?_; rotate_left; refine S_exit rfl rfl ?_; refine S_seq rfl ?_; refine S_region rfl rfl ?_; rotate_left)
  · skip
    refine S_draw ([pt b3 23 (pre (fun i => w32 (h.getD i 0 + R.getD i 0)) (fun i => w32 (h.getD i 0)) 8 j), pt b8 23 (R.map w32)]) sub_st (by kernel_rfl) rfl (by kernel_rfl) (by kernel_rfl : _ = 10) ?_
    refine D_take 0 rfl (pev_ok rfl) ?_ rfl rfl (by kernel_rfl) (by kernel_rfl)
    refine D_take 1 rfl (pev_ok rfl) ?_ rfl rfl (by kernel_rfl) (by kernel_rfl)
    refine D_take 2 rfl (T_ixaN rfl rfl rfl rfl rfl rfl (by omega)) ?_ rfl rfl (by kernel_rfl) (by kernel_rfl)
    refine D_take 3 rfl (T_load rfl rfl rfl (pre_next (by omega))) ?_ rfl rfl (by kernel_rfl) (by kernel_rfl)
    refine D_take 4 rfl (pev_ok rfl) ?_ rfl rfl (by kernel_rfl) (by kernel_rfl)
    refine D_take 5 rfl (T_ixaN rfl rfl rfl rfl rfl rfl (by omega)) ?_ rfl rfl (by kernel_rfl) (by kernel_rfl)
    (refine D_take 6 rfl (T_load rfl rfl rfl (map_at0 w32 0 (by rw [lR]; omega))) ?_ rfl rfl (by kernel_rfl) (by kernel_rfl))
    refine D_take 7 rfl (T_w32 rfl rfl rfl) ?_ rfl rfl (by kernel_rfl) (by kernel_rfl)
    refine D_take 8 rfl (T_ixaN rfl rfl rfl rfl rfl rfl (by omega)) ?_ rfl rfl (by kernel_rfl) (by kernel_rfl)
    refine D_one 9 rfl (E_store1 rfl rfl rfl rfl rfl rfl (by rw [pre_len]; omega)) ?_ rfl rfl (by kernel_rfl)
    rintro _ _ rfl
    refine Nx_pivot (by kernel_rfl) ?_
    refine D_done ?_ (by kernel_rfl)
    skip
    focus (refine RS_blk ?_; refine S_region rfl rfl ?_; refine R_p rfl ?_ rfl rfl; refine R_take (T_addN rfl rfl (by unfold fits; omega)) ?_ rfl rfl; refine R_p rfl ?_ rfl rfl; refine R_nil ?_)
    refine hJ (j + 1) _ _ (by omega) (Sub.cons rfl (Sub.cons rfl (Sub.cons rfl (Sub.cons rfl Sub.nil)))) ?_ (by omega)
    rw [← pre_set (by omega)]
    exact fun _ h => h
  · obtain rfl : j = 8 := by omega
    rw [pre_all, e]
    focus (refine R_take (T_loada (ds := (blockW h l).map w32) rfl rfl rfl lb2 (fun q v hq => by rw [Nat.zero_add]; exact hq)) ?_ rfl rfl; (refine R_eff0 (E_storew (ds := (blockW h l).map w32) (cs := List.replicate 8 (.int .u32 0)) rfl rfl rfl lb2 (w32_ones _) lb2.symm) ?_ rfl; rintro _ _ rfl); refine R_nil ?_)
    refine hB _ _ _ _ _ rfl (.cell rfl rfl rfl inferInstance lb2 .nil) fun w' hS => ⟨(), rfl, trivial, hS.sublist (List.nil_sublist _)⟩
end Go.Proofs.YtemgfoakffappaaDoor
