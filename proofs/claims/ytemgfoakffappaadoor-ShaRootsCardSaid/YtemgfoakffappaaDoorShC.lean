/- Digests: the document's digest of bytes. -/
import Derived.Test.YtemgfoakffappaaDoorShB
namespace Go.Proofs.YtemgfoakffappaaDoor
open Go.RowKit
open Asn (pt row rb)
set_option linter.unusedVariables false
set_option linter.unusedSimpArgs false
--@use N
theorem Src.part {w0 : World} {M : Nat → Prop} {H : List Asn} {A : Option Addr} {n c : Nat} {l : List UInt8} (h : Src w0 M H A n c l) {q r : Nat} (hq : q ≤ r) (hr : r ≤ n) : Src w0 M H (cutP A c q 1) (r - q) (c - q) ((l.drop q).take (r - q)) := ⟨fun w hS => (h.bs w hS).part hq hr⟩
section
variable {n : Nat} {w0 : World} {M : Nat → Prop} {T : Slots} {H Hr : List Asn} {dd : Option Tmp} {tt : TypeId} {pos : String} {af : Array Edge} {g : Option (Nat × Bool)} {x y z : Operand} {ts : Array TypeId}
theorem E_highN {k X : Nat} {z : Int} (hx : oget T x = some (.int .u64 z)) (hz : z = (X : Int)) (hy : oget T y = some (.int .i64 (k : Int))) (hX : X < 18446744073709551616) (hk : k ≤ 1000) :
    Ef Tryd.prog n w0 M T H ⟨dd, .call ⟨.value (.func 41), #[x, y], ts⟩, tt, pos, af, g⟩ (fun u H' => ∃ A' c', (0 < k → A' ≠ none) ∧ u = .slice A' k c' ∧ H' = row 5 1 A' k c' ((be k X).map bv) :: H) := by
  subst hz
  refine (E_high (k := k) (X := (X : Int)) hx hy (by omega) hk).mono ?_
  rintro v H' ⟨A', c', rfl, rfl⟩ w hS
  rw [Int.toNat_natCast] at hS
  exact ⟨_, _, rfl, ⟨A', c', (row_facts (hS.at_ (A := row 5 1 A' k c' ((be k X).map bv)) (by simp))).2.2.1, rfl, rfl⟩, hS⟩
end
theorem pre_setv {f g : Nat → Value} {n j : Nat} {v : Value} (h : j < n) (hv : v = f j) : (pre f g n j).set (0 + j) v = pre f g n (j + 1) := by rw [hv, pre_set h]
theorem bl8 (h : List UInt32) (b : List UInt8) : ((blockW h b).map w32).length = 8 := by simp [blockW_len]
theorem sw8 (p : List UInt8) (k : Nat) : ((sumW p k).map w32).length = 8 := by simp [sumW_len]
set_option maxRecDepth 100000 in
set_option maxHeartbeats 4000000 in
theorem refsum_any (w : World) (A : Option Addr) (n c : Nat) (l : List UInt8) (F : Nat → Prop) (h : Bs w F A n c l) (hn : n ≤ 100000) :
    Gives Tryd.prog 22 [.slice A n c] [] w (X := Unit) (fun x => .agg ((sumL l).map bv).toArray) (fun _ => True) (fun x => []) := by
  refine gives_C Tryd.func22 rfl Tryd.ntmps22 Tryd.results22 (by simp) (St.enter w) (fun B hB => ?_)
  focus (refine S_seq rfl ?_; refine S_region rfl rfl ?_; (refine R_eff (E_alloca rfl noId_alloc) ?_ rfl rfl; rintro _ _ ⟨b2, rfl, rfl⟩); refine R_nil ?_; refine S_seq rfl ?_; refine S_region rfl rfl ?_; refine R_take (T_built (fun a ha => rfl) start_built) ?_ rfl rfl; (refine R_eff (E_alloca rfl z8_alloc) ?_ rfl rfl; rintro _ _ ⟨b3, rfl, rfl⟩); (refine R_eff0 (E_storew (ds := startL.map w32) (cs := List.replicate 8 (.int .u32 0)) rfl rfl rfl rfl (w32_ones _) rfl) ?_ rfl; rintro _ _ rfl); refine R_nil ?_; refine S_seq rfl ?_; refine S_region rfl rfl ?_; refine R_p rfl ?_ rfl rfl; (refine R_eff (E_refpad rfl (Src.old h fun k _ => noOwns k) hn) ?_ rfl rfl; rintro _ _ ⟨A1, c1, hcc, rfl, rfl⟩); refine R_p rfl ?_ rfl rfl; refine R_nil ?_; refine S_seq rfl ?_; refine S_region rfl rfl ?_; (refine R_eff E_known ?_ rfl rfl; rintro _ _ ⟨gk, rfl, rfl⟩); refine R_p rfl ?_ rfl rfl; refine R_nil ?_; refine S_seq rfl ?_; refine S_seq rfl ?_; refine S_region rfl rfl ?_; refine R_p rfl ?_ rfl rfl; refine R_nil ?_; refine S_block rfl ?_)
  have hN : (padL l).length % 64 = 0 := by rw [padL_len]; omega
  have hN1 : (padL l).length ≤ 100072 := by rw [padL_len]; have := h.len; omega
  have hsum : sumL l = wordsB (sumW (padL l) ((padL l).length / 64)) := rfl
  have hsl := sumL_len l
  obtain ⟨P, hP⟩ : ∃ P, padL l = P := ⟨_, rfl⟩
  rw [hP] at hN hN1 hsum hcc ⊢
  obtain ⟨N, hNP⟩ : ∃ N, P.length = N := ⟨_, rfl⟩
  rw [hNP] at hN hN1 hsum hcc ⊢
  refine S_loop (X := Nat) (fun k => [(2, .pointer (some ⟨b2, 0, none⟩)), (3, .pointer (some ⟨b3, 0, none⟩)), (4, .slice A1 N c1), (5, .slice (some ⟨gk, 0, none⟩) 64 64), (6, .int .i64 ((64 * k : Nat) : Int))]) (fun k => [pt b3 23 ((sumW P k).map w32), row 5 1 A1 N c1 (P.map bv), pt gk 22 (rootsL.map w32), pt b2 33 (noId.map bv)]) (fun k => 64 * k ≤ N) (fun k => N - 64 * k) rfl 0 (Nat.zero_le _) (Sub.cons rfl (Sub.cons rfl (Sub.cons rfl (Sub.cons rfl (Sub.cons rfl Sub.nil))))) (by rw [show sumW P 0 = startL from rfl]; exact sub_st) ?_
  intro k hk J hJ
  have hsrc : 64 * k + 64 ≤ N → ∀ {H Hr : List Asn} [HRow H A1 N c1 5 1 (P.map bv) Hr], Src w (owns []) H (cutP A1 c1 (64 * k) 1) (64 * k + 64 - 64 * k) (c1 - 64 * k) ((P.drop (64 * k)).take 64) := fun hk2 {H Hr} _ => by
    have h1 := (Src.row (w0 := w) (M := owns []) (H := H) (A := A1) (n := N) (c := c1) (l := P)).part (q := 64 * k) (r := 64 * k + 64) (by omega) hk2
    rwa [Nat.add_sub_cancel_left] at h1 ⊢
  have h64 : 64 * k + 64 ≤ N → ((P.drop (64 * k)).take 64).length = 64 := fun h => by rw [List.length_take, List.length_drop]; omega
  have hle : (64 * k : Nat) < N → 64 * k + 64 ≤ N := fun h => by omega
  focus (refine S_seq rfl ?_; refine S_seq rfl ?_; refine S_region rfl rfl ?_; refine R_p rfl ?_ rfl rfl; refine R_p rfl ?_ rfl rfl; refine R_p rfl ?_ rfl rfl; refine R_p rfl ?_ rfl rfl; refine R_nil ?_; (refine S_if rfl rfl (fun hs => ?_) (fun hs => ?_)); refine S_skip rfl ?_; refine S_seq rfl ?_; refine S_block rfl ?_; rotate_left; refine S_exit rfl rfl ?_; refine S_seq rfl ?_; refine S_region rfl rfl ?_; (refine R_eff (E_alloca rfl noId_alloc) ?_ rfl rfl; rintro _ _ ⟨b7, rfl, rfl⟩); refine R_nil ?_; refine S_seq rfl ?_; refine S_seq rfl ?_; refine S_region rfl rfl ?_; refine R_p rfl ?_ rfl rfl; refine R_nil ?_; refine S_block rfl ?_; rotate_left)
  · have hle2 := hle (by omega)
    refine S_draw ([pt b3 23 ((sumW P k).map w32), row 5 1 A1 N c1 (P.map bv), pt gk 22 (rootsL.map w32)]) sub_st (by kernel_rfl) rfl (by kernel_rfl) (by kernel_rfl : _ = 9) ?_
    (refine D_take 0 rfl (T_loada (ds := (sumW P k).map w32) rfl rfl rfl (sw8 P k) (fun q v hq => by rw [Nat.zero_add]; exact hq)) ?_ rfl rfl (by kernel_rfl) (by kernel_rfl))
    refine D_take 1 rfl (pev_ok rfl) ?_ rfl rfl (by kernel_rfl) (by kernel_rfl)
    refine D_take 2 rfl (pev_ok rfl) ?_ rfl rfl (by kernel_rfl) (by kernel_rfl)
    refine D_take 3 rfl (pev_ok rfl) ?_ rfl rfl (by kernel_rfl) (by kernel_rfl)
    (refine D_take 4 rfl (T_addN rfl rfl (by unfold fits; omega)) ?_ rfl rfl (by kernel_rfl) (by kernel_rfl))
    refine D_take 5 rfl (T_slb (q := 64 * k) (r := 64 * k + 64) rfl rfl rfl rfl rfl rfl (by omega) (by omega)) ?_ rfl rfl (by kernel_rfl) (by kernel_rfl)
    refine D_take 6 rfl (pev_ok rfl) ?_ rfl rfl (by kernel_rfl) (by kernel_rfl)
    refine D_one 7 rfl (E_refinto (l := (P.drop (64 * k)).take 64) rfl rfl rfl (sumW_len P k) (hsrc hle2) (h64 hle2) (Srd.pt rfl (fun q v hq => by rw [Nat.zero_add]; exact hq))) ?_ rfl rfl (by kernel_rfl)
    rintro _ _ ⟨rfl, rfl⟩
    refine Nx_same sub_st ?_
    refine D_one 8 rfl (E_storew (cs := (sumW P k).map w32) rfl rfl rfl (bl8 _ _) (w32_ones _) ((sw8 P k).trans (bl8 _ _).symm)) ?_ rfl rfl (by kernel_rfl)
    rintro _ _ rfl
    refine Nx_pivot (by kernel_rfl) ?_
    refine D_done ?_ (by kernel_rfl)
    skip
    focus (refine RS_blk ?_; refine S_region rfl rfl ?_; refine R_p rfl ?_ rfl rfl; refine R_take (T_addN rfl rfl (by unfold fits; omega)) ?_ rfl rfl; refine R_p rfl ?_ rfl rfl; refine R_nil ?_)
    exact hJ (k + 1) _ _ (by omega) (Sub.cons rfl (Sub.cons rfl (Sub.cons rfl (Sub.cons rfl (Sub.cons rfl Sub.nil))))) (by dsimp only [sumW]; exact sub_st) (by omega)
  have hk2 : k = N / 64 := by omega
  subst hk2
  have l8 := sumW_len P (N / 64)
  obtain ⟨W, hW⟩ : ∃ W, sumW P (N / 64) = W := ⟨_, rfl⟩
  rw [hW] at hsum l8 ⊢
  clear hJ hsrc h64 hle
  refine S_loop (X := Nat) (fun j => [(2, .pointer (some ⟨b2, 0, none⟩)), (3, .pointer (some ⟨b3, 0, none⟩)), (7, .pointer (some ⟨b7, 0, none⟩)), (8, .int .i64 (j : Int))]) (fun j => [pt b7 33 (pre (fun i => bv ((sumL l).getD i 0)) (fun _ => bv 0) 32 j), pt b3 23 (W.map w32), pt b2 33 (noId.map bv)]) (fun t => t ≤ 32) (fun t => 32 - t) rfl 0 (Nat.zero_le _) (Sub.cons rfl (Sub.cons rfl (Sub.cons rfl (Sub.cons rfl Sub.nil)))) (by rw [pre_0, show (List.range 32).map (fun _ => bv 0) = noId.map bv from rfl]; exact sub_st) ?_
  intro j hj J hJ
  have hX := UInt32.toNat_lt (W.getD (j / 4) 0)
  have hsl2 : ((sumL l).map bv).length = 32 := by simp [hsl]
  focus (refine S_seq rfl ?_; refine S_seq rfl ?_; refine S_region rfl rfl ?_; refine R_p rfl ?_ rfl rfl; refine R_p rfl ?_ rfl rfl; refine R_nil ?_; (refine S_if rfl rfl (fun hs => ?_) (fun hs => ?_)); refine S_skip rfl ?_; refine S_seq rfl ?_; refine S_block rfl ?_; refine S_region rfl rfl ?_; refine R_p rfl ?_ rfl rfl; refine R_p rfl ?_ rfl rfl; refine R_take (T_divN (p := j) (q := 4) rfl rfl (by omega) (by unfold fits; omega)) ?_ rfl rfl; refine R_take (T_ixaN (q := j / 4) rfl rfl rfl rfl rfl rfl (by omega)) ?_ rfl rfl; refine R_take (T_load rfl rfl rfl (map_at0 w32 0 (by rw [l8]; omega))) ?_ rfl rfl; refine R_take (T_convf rfl rfl rfl rfl (by unfold fits; omega)) ?_ rfl rfl; (refine R_eff (E_highN (k := 4) (X := (W.getD (j / 4) 0).toNat) rfl rfl rfl (by omega) (by decide)) ?_ rfl rfl; rintro _ _ ⟨Ah, ch, hneh, rfl, rfl⟩; have hneh := hneh (by decide)); refine R_p rfl ?_ rfl rfl; refine R_take (T_modN (p := j) (q := 4) rfl rfl (by omega)) ?_ rfl rfl; refine R_take (T_ixN rfl rfl rfl rfl rfl rfl (by first | assumption | exact hne (by omega) | exact hne2 (by omega)) (by omega)) ?_ rfl rfl; refine R_take (T_ldb (j := j % 4) (m := 4) (bs := be 4 (W.getD (j / 4) 0).toNat) rfl rfl rfl (Src.row (c := ch)) (by omega)) ?_ rfl rfl; refine R_take (T_ixaN rfl rfl rfl rfl rfl rfl (by omega)) ?_ rfl rfl; (refine R_eff0 (E_store1 rfl rfl rfl rfl rfl rfl (by rw [pre_len]; omega)) ?_ rfl; rintro _ _ rfl); refine R_nil ?_; refine RS_blk ?_; refine S_region rfl rfl ?_; refine R_p rfl ?_ rfl rfl; refine R_take (T_addN rfl rfl (by unfold fits; omega)) ?_ rfl rfl; refine R_p rfl ?_ rfl rfl; refine R_nil ?_; rotate_left; refine S_exit rfl rfl ?_; refine S_seq rfl ?_; refine S_region rfl rfl ?_; rotate_left)
  · refine hJ (j + 1) _ _ (by omega) (Sub.cons rfl (Sub.cons rfl (Sub.cons rfl (Sub.cons rfl Sub.nil)))) ?_ (by omega)
    rw [pre_setv (f := fun i => bv ((sumL l).getD i 0)) (by omega) (by rw [hsum, wordsB_at (by omega)]; rfl)]
    exact sub_st
  · obtain rfl : j = 32 := by omega
    rw [pre_all, ← map_range bv 0 hsl]
    focus (refine R_take (T_loada (ds := (sumL l).map bv) rfl rfl rfl hsl2 (fun q v hq => by rw [Nat.zero_add]; exact hq)) ?_ rfl rfl; (refine R_eff0 (E_storew (ds := (sumL l).map bv) (cs := noId.map bv) rfl rfl rfl hsl2 (bv_one _) hsl2.symm) ?_ rfl; rintro _ _ rfl); refine R_nil ?_)
    exact hB _ _ _ _ _ rfl (.cell rfl rfl rfl inferInstance hsl2 .nil) fun w' hS => ⟨(), rfl, trivial, hS.sublist (List.nil_sublist _)⟩
end Go.Proofs.YtemgfoakffappaaDoor
