/- Digests: the document's digest. -/
import Derived.Test.YtemgfoakffappaaDoorSh8
namespace Go.Proofs.YtemgfoakffappaaDoor
open Go.RowKit
open Asn (pt row rb)
set_option linter.unusedVariables false
set_option linter.unusedSimpArgs false
--@use N
set_option maxRecDepth 100000 in
set_option maxHeartbeats 4000000 in
theorem out_any (w : World) (A : Option Addr) (n c : Nat) (l : List UInt8) (F : Nat → Prop) (hA : Bs w F A n c l) (hl : l.length = 64) :
    Gives Tryd.prog 36 [.slice A n c] [] w (X := Option Addr × Nat) (fun x => .slice x.1 64 x.2) (fun _ => True) (fun x => [row 22 1 x.1 64 x.2 ((sched l 64).map w32)]) := by
  refine gives_S Tryd.func36 rfl Tryd.ntmps36 Tryd.results36 (by simp) (St.enter w) (fun B hB => ?_)
  have hln := hA.len
  have hcap := hA.cap
  focus (refine S_seq rfl ?_; refine S_region rfl rfl ?_; refine R_p rfl ?_ rfl rfl; refine R_nil ?_; refine S_seq rfl ?_; refine S_region rfl rfl ?_; refine R_p rfl ?_ rfl rfl; refine R_nil ?_; refine S_seq rfl ?_; refine S_seq rfl ?_; refine S_region rfl rfl ?_; refine R_p rfl ?_ rfl rfl; refine R_nil ?_; refine S_block rfl ?_)
  refine RS_mem (fun w hS => hS.nilrow 22 1) ?_
  refine S_loop (X := Nat × Option Addr × Nat) (fun x => [(0, .slice A n c), (3, .slice x.2.1 x.1 x.2.2), (4, .int .i64 (x.1 : Int))]) (fun x => [row 22 1 x.2.1 x.1 x.2.2 ((sched l x.1).map w32)]) (fun x => x.1 ≤ 64) (fun x => 64 - x.1) rfl (0, none, 0) (Nat.zero_le _) (Sub.cons rfl (Sub.cons rfl (Sub.cons rfl Sub.nil))) (fun w hS => sub_st (H := [row 22 1 none 0 0 []]) (H' := [row 22 1 none 0 0 []]) w hS) ?_
  rintro ⟨t, A3, c3⟩ ht J hJ
  dsimp only at ht ⊢
  refine RS_row A3 t c3 fun hrc hrm hne hrl => ?_
  have hP : t < 16 → Bs w F (cutP A c (4 * t) 1) (4 * t + 4 - 4 * t) (c - 4 * t) ((l.drop (4 * t)).take 4) := fun h => by
    have h1 := hA.part (q := 4 * t) (r := 4 * t + 4) (by omega) (by omega)
    rwa [show 4 * t + 4 - 4 * t = 4 by omega] at h1 ⊢
  have hlen : t < 16 → ((l.drop (4 * t)).take 4).length = 4 := fun h => by rw [List.length_take, List.length_drop]; omega
  obtain ⟨v, hv⟩ : ∃ v, v = UInt32.ofNat (num ((l.drop (4 * t)).take 4)) := ⟨_, rfl⟩
  have hv2 := v.toNat_lt
  focus (refine S_seq rfl ?_; refine S_seq rfl ?_; refine S_region rfl rfl ?_; refine R_p rfl ?_ rfl rfl; refine R_p rfl ?_ rfl rfl; refine R_nil ?_; (refine S_if rfl rfl (fun hs => ?_) (fun hs => ?_)); refine S_skip rfl ?_; refine S_seq rfl ?_; refine S_block rfl ?_; refine S_seq rfl ?_; refine S_seq rfl ?_; refine S_region rfl rfl ?_; refine R_p rfl ?_ rfl rfl; refine R_p rfl ?_ rfl rfl; refine R_nil ?_; (refine S_if rfl rfl (fun hs => ?_) (fun hs => ?_)); refine S_seq rfl ?_; refine S_region rfl rfl ?_; refine R_p rfl ?_ rfl rfl; refine R_p rfl ?_ rfl rfl; refine R_p rfl ?_ rfl rfl; refine R_take (T_mulN rfl rfl (by unfold fits; omega)) ?_ rfl rfl; refine R_p rfl ?_ rfl rfl; refine R_take (T_mulN rfl rfl (by unfold fits; omega)) ?_ rfl rfl; refine R_take (T_addN rfl rfl (by unfold fits; omega)) ?_ rfl rfl; refine R_take (T_slb (q := 4 * t) (r := 4 * t + 4) rfl rfl rfl rfl rfl rfl (by omega) (by omega)) ?_ rfl rfl; (refine R_eff (E_number (l := (l.drop (4 * t)).take 4) rfl (Src.old (hP (by omega)) fun k _ => noOwns k)) ?_ rfl rfl; rintro _ _ ⟨rfl, rfl⟩; rw [num64_4 (hlen (by omega)), ← hv]); refine R_take (T_convf rfl rfl rfl rfl (by unfold fits; omega)) ?_ rfl rfl; (refine R_eff (E_lit1 (vs := [.int .u32 (v.toNat : Int)]) rfl rfl rfl rfl rfl rfl rfl (by simp [Value.oneCell']) (by decide)) ?_ rfl rfl; rintro _ _ ⟨bl1, rfl, rfl⟩); (refine R_eff (E_app1 (m2 := 1) (news := [.int .u32 (v.toNat : Int)]) rfl rfl rfl rfl rfl rfl rfl (Srd.pt rfl (fun j v h => by simpa using h)) (by simp [Value.oneCell']) (by simp only [ti22]; omega) (by unfold maxLen; omega)) ?_ rfl rfl; rintro _ _ ⟨A4, c4, rfl, rfl⟩); refine R_p rfl ?_ rfl rfl; refine R_nil ?_; refine S_exit rfl rfl ?_; refine S_region rfl rfl ?_; refine R_p rfl ?_ rfl rfl; refine R_take (T_addN rfl rfl (by unfold fits; omega)) ?_ rfl rfl; refine R_p rfl ?_ rfl rfl; refine R_nil ?_; rotate_left; refine S_skip rfl ?_; refine S_seq rfl ?_; (refine S_draw _ (fun _ h => h) (by kernel_rfl) rfl (by kernel_rfl) (rfl : _ = 12) ?_; (refine D_take 0 rfl (pev_ok rfl) ?_ rfl rfl (by kernel_rfl) (by kernel_rfl)); (refine D_take 1 rfl (pev_ok rfl) ?_ rfl rfl (by kernel_rfl) (by kernel_rfl)); ((refine D_take 2 rfl (T_subN rfl rfl (by omega) (by unfold fits; omega)) ?_ rfl rfl (by kernel_rfl) (by kernel_rfl))); (refine D_take 3 rfl (T_ixN rfl rfl rfl rfl rfl rfl (by first | assumption | exact hne (by omega) | exact hne2 (by omega)) (by omega)) ?_ rfl rfl (by kernel_rfl) (by kernel_rfl)); (refine D_take 4 rfl (T_ldr (sz := 1) (m := t) (v := w32 ((sched l t).getD (t - 2) 0)) rfl rfl rfl (Srd.row (c := c3)) (by omega) (sched_at (j := t - 2) (by omega))) ?_ rfl rfl (by kernel_rfl) (by kernel_rfl)); (refine D_take 5 rfl (pev_ok rfl) ?_ rfl rfl (by kernel_rfl) (by kernel_rfl)); (refine D_take 6 rfl (pev_ok rfl) ?_ rfl rfl (by kernel_rfl) (by kernel_rfl)); ((refine D_take 7 rfl (T_subN rfl rfl (by omega) (by unfold fits; omega)) ?_ rfl rfl (by kernel_rfl) (by kernel_rfl))); (refine D_take 8 rfl (T_ixN rfl rfl rfl rfl rfl rfl (by first | assumption | exact hne (by omega) | exact hne2 (by omega)) (by omega)) ?_ rfl rfl (by kernel_rfl) (by kernel_rfl)); (refine D_take 9 rfl (T_ldr (sz := 1) (m := t) (v := w32 ((sched l t).getD (t - 15) 0)) rfl rfl rfl (Srd.row (c := c3)) (by omega) (sched_at (j := t - 15) (by omega))) ?_ rfl rfl (by kernel_rfl) (by kernel_rfl)); (refine D_take 10 rfl (pev_ok rfl) ?_ rfl rfl (by kernel_rfl) (by kernel_rfl)); (refine D_take 11 rfl (pev_ok rfl) ?_ rfl rfl (by kernel_rfl) (by kernel_rfl)); refine D_done ?_ (by kernel_rfl)); refine S_seq rfl ?_; refine S_region rfl rfl ?_; refine R_p rfl ?_ rfl rfl; (refine R_eff (E_turned 17 rfl rfl (by decide) (by decide)) ?_ rfl rfl; rintro _ _ ⟨rfl, rfl⟩); refine R_p rfl ?_ rfl rfl; (refine R_eff (E_turned 19 rfl rfl (by decide) (by decide)) ?_ rfl rfl; rintro _ _ ⟨rfl, rfl⟩); refine R_take (T_w32 rfl rfl rfl) ?_ rfl rfl; refine R_p rfl ?_ rfl rfl; refine R_take (T_wdiv2 (k := 10) rfl rfl) ?_ rfl rfl; refine R_take (T_w32 rfl rfl rfl) ?_ rfl rfl; refine R_p rfl ?_ rfl rfl; refine R_nil ?_; refine S_seq rfl ?_; refine S_region rfl rfl ?_; refine R_p rfl ?_ rfl rfl; (refine R_eff (E_turned 7 rfl rfl (by decide) (by decide)) ?_ rfl rfl; rintro _ _ ⟨rfl, rfl⟩); refine R_p rfl ?_ rfl rfl; (refine R_eff (E_turned 18 rfl rfl (by decide) (by decide)) ?_ rfl rfl; rintro _ _ ⟨rfl, rfl⟩); refine R_take (T_w32 rfl rfl rfl) ?_ rfl rfl; refine R_p rfl ?_ rfl rfl; refine R_take (T_wdiv2 (k := 3) rfl rfl) ?_ rfl rfl; refine R_take (T_w32 rfl rfl rfl) ?_ rfl rfl; refine R_p rfl ?_ rfl rfl; refine R_nil ?_; rotate_left; refine S_exit rfl rfl ?_; refine S_seq rfl ?_; refine S_region rfl rfl ?_; refine R_p rfl ?_ rfl rfl; refine R_p rfl ?_ rfl rfl; refine R_nil ?_; rotate_left)
  · rw [hv, sched_next16 (by omega)]
    exact hJ (t + 1, A4, c4) _ _ (by dsimp only; omega) (Sub.cons rfl (Sub.cons rfl (Sub.cons rfl Sub.nil))) sub_st (by dsimp only; omega)
  · skip
    obtain ⟨u, hu⟩ : ∃ u, u = (turn ((sched l t).getD (t - 2) 0) 17 ^^^ turn ((sched l t).getD (t - 2) 0) 19 ^^^ shr32 ((sched l t).getD (t - 2) 0) 10) + (sched l t).getD (t - 7) 0 + (turn ((sched l t).getD (t - 15) 0) 7 ^^^ turn ((sched l t).getD (t - 15) 0) 18 ^^^ shr32 ((sched l t).getD (t - 15) 0) 3) + (sched l t).getD (t - 16) 0 := ⟨_, rfl⟩
    refine S_draw ([row 22 1 A3 t c3 ((sched l t).map w32)]) sub_st (by kernel_rfl) rfl (by kernel_rfl) (by kernel_rfl : _ = 19) ?_
    refine D_take 0 rfl (pev_ok rfl) ?_ rfl rfl (by kernel_rfl) (by kernel_rfl)
    refine D_take 1 rfl (pev_ok rfl) ?_ rfl rfl (by kernel_rfl) (by kernel_rfl)
    refine D_take 2 rfl (pev_ok rfl) ?_ rfl rfl (by kernel_rfl) (by kernel_rfl)
    refine D_take 3 rfl (pev_ok rfl) ?_ rfl rfl (by kernel_rfl) (by kernel_rfl)
    (refine D_take 4 rfl (T_subN rfl rfl (by omega) (by unfold fits; omega)) ?_ rfl rfl (by kernel_rfl) (by kernel_rfl))
    refine D_take 5 rfl (T_ixN rfl rfl rfl rfl rfl rfl (by first | assumption | exact hne (by omega) | exact hne2 (by omega)) (by omega)) ?_ rfl rfl (by kernel_rfl) (by kernel_rfl)
    refine D_take 6 rfl (T_ldr (sz := 1) (m := t) (v := w32 ((sched l t).getD (t - 7) 0)) rfl rfl rfl (Srd.row (c := c3)) (by omega) (sched_at (j := t - 7) (by omega))) ?_ rfl rfl (by kernel_rfl) (by kernel_rfl)
    refine D_take 7 rfl (T_w32 rfl rfl rfl) ?_ rfl rfl (by kernel_rfl) (by kernel_rfl)
    refine D_take 8 rfl (pev_ok rfl) ?_ rfl rfl (by kernel_rfl) (by kernel_rfl)
    refine D_take 9 rfl (T_w32 rfl rfl rfl) ?_ rfl rfl (by kernel_rfl) (by kernel_rfl)
    refine D_take 10 rfl (pev_ok rfl) ?_ rfl rfl (by kernel_rfl) (by kernel_rfl)
    refine D_take 11 rfl (pev_ok rfl) ?_ rfl rfl (by kernel_rfl) (by kernel_rfl)
    (refine D_take 12 rfl (T_subN rfl rfl (by omega) (by unfold fits; omega)) ?_ rfl rfl (by kernel_rfl) (by kernel_rfl))
    refine D_take 13 rfl (T_ixN rfl rfl rfl rfl rfl rfl (by first | assumption | exact hne (by omega) | exact hne2 (by omega)) (by omega)) ?_ rfl rfl (by kernel_rfl) (by kernel_rfl)
    refine D_take 14 rfl (T_ldr (sz := 1) (m := t) (v := w32 ((sched l t).getD (t - 16) 0)) rfl rfl rfl (Srd.row (c := c3)) (by omega) (sched_at (j := t - 16) (by omega))) ?_ rfl rfl (by kernel_rfl) (by kernel_rfl)
    refine D_take 15 rfl (T_w32 rfl rfl rfl) ?_ rfl rfl (by kernel_rfl) (by kernel_rfl)
    refine D_one 16 rfl (E_lit1 (vs := [.int .u32 (((turn ((sched l t).getD (t - 2) 0) 17 ^^^ turn ((sched l t).getD (t - 2) 0) 19 ^^^ shr32 ((sched l t).getD (t - 2) 0) 10) + (sched l t).getD (t - 7) 0 + (turn ((sched l t).getD (t - 15) 0) 7 ^^^ turn ((sched l t).getD (t - 15) 0) 18 ^^^ shr32 ((sched l t).getD (t - 15) 0) 3) + (sched l t).getD (t - 16) 0).toNat : Int)]) rfl rfl rfl rfl rfl rfl rfl (by simp [Value.oneCell']) (by decide)) ?_ rfl rfl (by kernel_rfl)
    rintro _ _ ⟨bl1, rfl, rfl⟩; rw [← hu]
    refine Nx_same sub_st ?_
    refine D_one 17 rfl (E_app1 (m2 := 1) (news := [.int .u32 (u.toNat : Int)]) rfl rfl rfl rfl rfl rfl rfl (Srd.pt rfl (fun j v h => by simpa using h)) (by simp [Value.oneCell']) (by simp only [ti22]; omega) (by unfold maxLen; omega)) ?_ rfl rfl (by kernel_rfl)
    rintro _ _ ⟨A4, c4, rfl, rfl⟩
    refine Nx_pivot (by kernel_rfl) ?_
    refine D_take 18 rfl (pev_ok rfl) ?_ rfl rfl (by kernel_rfl) (by kernel_rfl)
    refine D_done ?_ (by kernel_rfl)
    skip
    rw [sched_next (by omega) hu]
    focus (refine RS_blk ?_; refine S_region rfl rfl ?_; refine R_p rfl ?_ rfl rfl; refine R_take (T_addN rfl rfl (by unfold fits; omega)) ?_ rfl rfl; refine R_p rfl ?_ rfl rfl; refine R_nil ?_)
    exact hJ (t + 1, A4, c4) _ _ (by dsimp only; omega) (Sub.cons rfl (Sub.cons rfl (Sub.cons rfl Sub.nil))) sub_st (by dsimp only; omega)
  · obtain rfl : t = 64 := by omega
    exact hB _ _ _ _ _ rfl rfl fun w' hS => ⟨(A3, c3), rfl, trivial, hS⟩
end Go.Proofs.YtemgfoakffappaaDoor
