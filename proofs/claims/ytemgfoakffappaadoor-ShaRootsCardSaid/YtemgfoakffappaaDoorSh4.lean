/- Digests: the digest of bytes. -/
import Derived.Test.YtemgfoakffappaaDoorSh3
namespace Go.Proofs.YtemgfoakffappaaDoor
open Go.RowKit
open Asn (pt row rb)
set_option linter.unusedVariables false
set_option linter.unusedSimpArgs false
--@use N
def noId : List UInt8 := List.replicate 32 0
theorem noId_alloc : ti33.zero = .agg (noId.map bv).toArray := by kernel_rfl
theorem noId_built : Tryd.prog.built 33 [] = some (noId.map bv).toArray := by kernel_rfl
theorem wordsB_next (h : List UInt32) (j : Nat) (hj : j < h.length) : wordsB (h.take (j + 1)) = wordsB (h.take j) ++ be 4 (h.getD j 0).toNat := by
  simp only [wordsB]
  rw [List.take_succ_eq_append_getElem hj, List.flatMap_append]
  simp [hj]

set_option maxRecDepth 100000 in
set_option maxHeartbeats 4000000 in
theorem sum_any (w : World) (A : Option Addr) (n c : Nat) (l : List UInt8) (F : Nat → Prop) (h : Bs w F A n c l) (hn : n ≤ 100000) (hr : Roots w) :
    Gives Tryd.prog 21 [.slice A n c] [] w (X := Unit) (fun x => .agg ((sumL l).map bv).toArray) (fun _ => True) (fun x => []) := by
  refine gives_C Tryd.func21 rfl Tryd.ntmps21 Tryd.results21 (by simp) (St.enter w) (fun B hB => ?_)
  obtain ⟨hb1, hb2⟩ := going_built startL rfl
  focus (refine S_seq rfl ?_; refine S_region rfl rfl ?_; (refine R_eff (E_alloca rfl noId_alloc) ?_ rfl rfl; rintro _ _ ⟨b2, rfl, rfl⟩); refine R_nil ?_; refine S_seq rfl ?_; refine S_region rfl rfl ?_; (refine R_eff E_start ?_ rfl rfl; rintro _ _ ⟨rfl, rfl⟩); refine R_take (T_build1 rfl hb1) ?_ rfl rfl; refine R_take (T_build1 rfl hb1) ?_ rfl rfl; (refine R_eff (E_alloca rfl going_alloc) ?_ rfl rfl; rintro _ _ ⟨b5, rfl, rfl⟩); (refine R_eff0 (E_storew (ds := startL.map w32) (cs := List.replicate 8 (.int .u32 0)) rfl rfl rfl rfl (w32_ones _) rfl) ?_ rfl; rintro _ _ rfl); refine R_nil ?_; refine S_seq rfl ?_; refine S_region rfl rfl ?_; refine R_take (T_func (xs := [.pointer (some ⟨b5, 0, none⟩)]) (ys := []) rfl rfl) ?_ rfl rfl; refine R_p rfl ?_ rfl rfl; refine R_nil ?_; refine S_seq rfl ?_; refine S_seq rfl ?_; refine S_region rfl rfl ?_; refine R_p rfl ?_ rfl rfl; (refine R_eff (E_pad rfl (Src.old h fun k _ => noOwns k) hn) ?_ rfl rfl; rintro _ _ ⟨A1, c1, hcc, rfl, rfl⟩); refine R_p rfl ?_ rfl rfl; refine R_nil ?_; refine S_block rfl ?_)
  have hN : (padL l).length % 64 = 0 := by rw [padL_len]; omega
  have hN1 : (padL l).length ≤ 100072 := by rw [padL_len]; have := h.len; omega
  have hsum : sumL l = wordsB (sumW (padL l) ((padL l).length / 64)) := rfl
  have hsl := sumL_len l
  obtain ⟨P, hP⟩ : ∃ P, padL l = P := ⟨_, rfl⟩
  rw [hP] at hN hN1 hsum hcc ⊢
  obtain ⟨N, hNP⟩ : ∃ N, P.length = N := ⟨_, rfl⟩
  rw [hNP] at hN hN1 hsum hcc ⊢
  refine S_loop (X := Nat × Option Addr × Nat) (fun x => [(2, .pointer (some ⟨b2, 0, none⟩)), (3, .pointer (some ⟨b5, 0, none⟩)), (4, .func (.func 35) #[.pointer (some ⟨b5, 0, none⟩)] #[]), (5, .slice x.2.1 (N - 64 * x.1) x.2.2)]) (fun x => [pt b5 63 ((sumW P x.1).map w32), row 5 1 A1 N c1 (P.map bv), pt b2 33 (noId.map bv)]) (fun x => 64 * x.1 ≤ N ∧ N - 64 * x.1 ≤ x.2.2 ∧ ∀ w, (row 5 1 A1 N c1 (P.map bv)).holds w → Bs w All x.2.1 (N - 64 * x.1) x.2.2 (P.drop (64 * x.1))) (fun x => N - 64 * x.1) rfl (0, A1, c1) ⟨Nat.zero_le _, hcc, fun w hw => (Bs.of_own hw).more fun _ _ => trivial⟩ (Sub.cons rfl (Sub.cons rfl (Sub.cons rfl (Sub.cons rfl Sub.nil)))) (by rw [show sumW P (0, A1, c1).1 = startL from rfl]; exact sub_st) ?_
  rintro ⟨i, A2, c2⟩ ⟨hi, hic, hI⟩ J hJ
  have hS2 : ∀ {H : List Asn} {Hr : List Asn} [HRow H A1 N c1 5 1 (P.map bv) Hr], Src w (owns []) H A2 (N - 64 * i) c2 (P.drop (64 * i)) := fun {H Hr} hm => ⟨fun w hS => hI w (hS.at_ hm.mem)⟩
  dsimp only at hi hic hI ⊢
  have h64 : 0 < ((N - 64 * i : Nat) : Int) → ((P.drop (64 * i)).take 64).length = 64 := fun hs => by rw [List.length_take, List.length_drop, hNP]; omega
  focus (refine S_seq rfl ?_; refine S_seq rfl ?_; refine S_region rfl rfl ?_; refine R_p rfl ?_ rfl rfl; refine R_p rfl ?_ rfl rfl; refine R_p rfl ?_ rfl rfl; refine R_nil ?_; (refine S_if rfl rfl (fun hs => ?_) (fun hs => ?_)); refine S_skip rfl ?_; refine S_seq rfl ?_; refine S_block rfl ?_; refine S_region rfl rfl ?_; refine R_p rfl ?_ rfl rfl; refine R_p rfl ?_ rfl rfl; refine R_take (T_slhm rfl rfl rfl rfl rfl rfl (by decide) (by omega)) ?_ rfl rfl; refine R_take (T_s2a rfl rfl rfl (by decide)) ?_ rfl rfl; refine R_take (T_ldarr (k := 64) rfl rfl rfl hS2 rfl (by decide) (by omega)) ?_ rfl rfl; (refine R_eff (E_clo1 (pre := [.pointer (some ⟨b5, 0, none⟩)]) rfl (E_into rfl rfl hr (noOwns 0) (sumW_len P i) (h64 hs))) ?_ rfl rfl; rintro _ _ ⟨rfl, rfl⟩); refine R_nil ?_; refine RS_blk ?_; refine S_region rfl rfl ?_; refine R_p rfl ?_ rfl rfl; refine R_take (T_sll (q := 64) rfl rfl rfl rfl rfl (by omega) hic) ?_ rfl rfl; refine R_p rfl ?_ rfl rfl; refine R_nil ?_; rotate_left; refine S_exit rfl rfl ?_; refine S_seq rfl ?_; refine S_region rfl rfl ?_; refine R_p rfl ?_ rfl rfl; refine R_nil ?_; refine S_seq rfl ?_; refine S_seq rfl ?_; refine S_region rfl rfl ?_; refine R_p rfl ?_ rfl rfl; refine R_p rfl ?_ rfl rfl; rotate_left)
  · rw [show N - 64 * i - 64 = N - 64 * (i + 1) by omega]
    refine hJ (i + 1, cutP A2 c2 64 1, c2 - 64) _ _ ⟨by dsimp only; omega, by dsimp only; omega, fun w hw => ?_⟩ (Sub.cons rfl (Sub.cons rfl (Sub.cons rfl (Sub.cons rfl Sub.nil)))) (by dsimp only [sumW]; exact sub_st) (by dsimp only; omega)
    have h1 := (hI w hw).cutP (k := 64) (by omega)
    rw [List.drop_drop, show N - 64 * i - 64 = N - 64 * (i + 1) by omega] at h1
    exact h1
  clear hS2 hI hJ h64
  have hi2 : i = N / 64 := by omega
  subst hi2
  have l8 := sumW_len P (N / 64)
  obtain ⟨h8, hh8⟩ : ∃ h8, sumW P (N / 64) = h8 := ⟨_, rfl⟩
  rw [hh8] at hsum l8 ⊢
  have lh2 : (h8.map w32).length = 8 := by simpa using l8
  focus (refine R_take (T_loada (ds := h8.map w32) rfl rfl rfl lh2 (fun j v h => by simpa using h)) ?_ rfl rfl; refine R_p rfl ?_ rfl rfl; refine R_nil ?_; refine S_block rfl ?_)
  refine RS_mem (fun w hS => hS.nilrow 5 1) ?_
  refine S_loop (X := Nat × Option Addr × Nat) (fun x => [(2, .pointer (some ⟨b2, 0, none⟩)), (6, .slice x.2.1 (4 * x.1) x.2.2), (28, .agg (h8.map w32).toArray), (29, .int .i64 (x.1 : Int))]) (fun x => [row 5 1 x.2.1 (4 * x.1) x.2.2 ((wordsB (h8.take x.1)).map bv), pt b2 33 (noId.map bv)]) (fun x => x.1 ≤ 8) (fun x => 8 - x.1) rfl (0, none, 0) (Nat.zero_le _) (Sub.cons rfl (Sub.cons rfl (Sub.cons rfl (Sub.cons rfl Sub.nil)))) (by rw [show (wordsB (h8.take 0)).map bv = [] from rfl]; exact sub_st) ?_
  rintro ⟨j, A3, c3⟩ hj J hJ
  dsimp only at hj ⊢
  focus (refine S_seq rfl ?_; refine S_region rfl rfl ?_; refine R_p rfl ?_ rfl rfl; refine R_nil ?_; refine S_seq rfl ?_; (refine S_if rfl rfl (fun hs => ?_) (fun hs => ?_)); refine S_skip rfl ?_; refine S_seq rfl ?_; refine S_block rfl ?_; refine S_seq rfl ?_; refine S_region rfl rfl ?_; refine R_take (T_ixv (q := j) (v := w32 (h8.getD j 0)) rfl rfl rfl rfl rfl rfl rfl (by omega) (map_at w32 0 (by rw [l8]; omega))) ?_ rfl rfl; refine R_p rfl ?_ rfl rfl; refine R_nil ?_; refine S_region rfl rfl ?_; refine R_p rfl ?_ rfl rfl; refine R_p rfl ?_ rfl rfl; (refine R_eff (E_put32 (l := wordsB (h8.take j)) (X := (h8.getD j 0).toNat) rfl rfl Src.row (by omega) (UInt32.toNat_lt _)) ?_ rfl rfl; rintro _ _ ⟨A4, c4, rfl, rfl⟩); refine R_p rfl ?_ rfl rfl; refine R_nil ?_; refine RS_blk ?_; refine S_region rfl rfl ?_; refine R_take (T_addN rfl rfl (by unfold fits; omega)) ?_ rfl rfl; refine R_p rfl ?_ rfl rfl; refine R_nil ?_; rotate_left; refine S_exit rfl rfl ?_; refine S_seq rfl ?_; refine S_region rfl rfl ?_; refine R_p rfl ?_ rfl rfl; refine R_take (T_s2a rfl rfl rfl (by omega)) ?_ rfl rfl; rotate_left)
  · rw [show 4 * j + 4 = 4 * (j + 1) by omega, ← wordsB_next _ _ (by omega)]
    exact hJ (j + 1, A4, c4) _ _ (by dsimp only; omega) (Sub.cons rfl (Sub.cons rfl (Sub.cons rfl (Sub.cons rfl Sub.nil)))) sub_st (by dsimp only; omega)
  · obtain rfl : j = 8 := by omega
    clear hJ
    have e : h8.take 8 = h8 := List.take_of_length_le (by omega)
    rw [e, ← hsum]
    have hl32 : ((sumL l).map bv).length = 32 := by simp [hsl]
    have e2 : (sumL l).take 32 = sumL l := List.take_of_length_le (by omega)
    focus (refine R_take (T_ldarr (k := 32) (m := 4 * 8) (c := c3) (bs := sumL l) rfl rfl rfl Src.row rfl (by decide) (by omega)) ?_ rfl rfl)
    rw [e2]
    focus ((refine R_eff0 (E_storew (ds := (sumL l).map bv) (cs := noId.map bv) rfl rfl rfl hl32 (bv_one _) hl32.symm) ?_ rfl; rintro _ _ rfl); refine R_nil ?_)
    exact hB _ _ _ _ _ rfl (.cell rfl rfl rfl inferInstance hl32 .nil) fun w' hS => ⟨(), rfl, trivial, hS.sublist (List.nil_sublist _)⟩
end Go.Proofs.YtemgfoakffappaaDoor
