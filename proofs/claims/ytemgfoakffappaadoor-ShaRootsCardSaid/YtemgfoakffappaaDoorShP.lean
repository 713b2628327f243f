/- Digests: ShaRoots. -/
import Derived.Test.YtemgfoakffappaaDoorShO
namespace Go.Proofs.YtemgfoakffappaaDoor
open Go.RowKit Go.ChangeShapes Go.WideShapes Go.ChangeAt
open Asn (pt row rb)
set_option linter.unusedVariables false
set_option linter.unusedSimpArgs false
--@use N
theorem roots64 : (rootsL.map w32).length = 64 := rfl
set_option maxRecDepth 100000 in
set_option maxHeartbeats 4000000 in
theorem constants_any (w : World) (hr : Roots w) :
    Gives Tryd.prog 25 [] [] w (X := Unit) (fun r => .agg (rootsL.map w32).toArray) (fun r => True) (fun r => []) := by
  refine gives_C Tryd.func25 rfl Tryd.ntmps25 Tryd.results25 (by simp) (St.enter w) (fun B hB => ?_)
  focus (refine S_seq rfl ?_; refine S_region rfl rfl ?_; (refine R_eff (E_alloca rfl z64_alloc) ?_ rfl rfl; rintro _ _ ⟨b, rfl, rfl⟩); refine R_nil ?_; refine S_seq rfl ?_; refine S_region rfl rfl ?_; refine R_take (T_loadoa (A := some ⟨0, 0, none⟩) (j := 0) (ds := rootsL.map w32) rfl rfl rfl hr roots64 (by decide) (fun e v he => by rw [Nat.zero_add]; exact he) (fun k _ => noOwns k)) ?_ rfl rfl; (refine R_eff0 (E_storew (ds := rootsL.map w32) (cs := List.replicate 64 (.int .u32 0)) rfl rfl rfl roots64 (w32_ones _) rfl) ?_ rfl; rintro _ _ rfl); refine R_nil ?_)
  exact hB _ _ _ _ _ rfl (.cell rfl rfl rfl inferInstance roots64 .nil) fun w' hS => ⟨(), rfl, trivial, hS.sublist (List.nil_sublist _)⟩
section
variable {n : Nat} {w0 : World} {M : Nat → Prop} {T : Slots} {H Hr : List Asn} {dd : Option Tmp} {tt : TypeId} {pos : String} {af : Array Edge} {g : Option (Nat × Bool)} {x y z : Operand} {ts : Array TypeId}
theorem E_constants (hr : Roots w0) (hM : ¬ M 0) :
    Ef Tryd.prog n w0 M T H ⟨dd, .call ⟨.value (.func 25), #[], ts⟩, tt, pos, af, g⟩ (fun u H' => u = .agg (rootsL.map w32).toArray ∧ H' = H) := by
  refine (E_gv ⟨_, Tryd.func25, rfl, by kernel_rfl⟩ (vs := []) (by simp [ogets]) fun w hS => constants_any w (hr.kp hS.kp hM)).mono ?_
  rintro v H' ⟨_, rfl, _, rfl⟩ w hS
  exact ⟨_, _, rfl, ⟨rfl, rfl⟩, hS⟩
theorem E_eqwS {A1 A2 : Option Addr} {n1 c1 n2 c2 : Nat} (l : List UInt32) (hx : oget T x = some (.slice A1 n1 c1)) (hy : oget T y = some (.slice A2 n2 c2)) (h1 : Srd w0 M H 1 A1 n1 (l.map w32)) (h2 : Srd w0 M H 1 A2 n2 (l.map w32)) (hn : n1 ≤ 1000000) :
    Ef Tryd.prog n w0 M T H ⟨dd, .call ⟨.value (.func 28), #[x, y], ts⟩, tt, pos, af, g⟩ (fun u H' => u = .bool true ∧ H' = H) := by
  refine (E_gv ⟨_, Tryd.func28, rfl, by kernel_rfl⟩ (vs := [.slice A1 n1 c1, .slice A2 n2 c2]) (by simp [ogets, hx, hy]) fun w hS => eqw_any w A1 A2 n1 c1 n2 c2 l l (h1.rd w hS) (h2.rd w hS) hn).mono ?_
  rintro v H' ⟨_, rfl, _, rfl⟩ w hS
  rw [decide_eq_true rfl]
  exact ⟨_, _, rfl, ⟨rfl, rfl⟩, hS⟩
end
theorem cube_at {k : Nat} (hk : k < 64) : (((wl 3 312).take (k + 1)).map w32)[k]? = some (w32 (rootsL.getD k 0)) := by
  rw [show wl 3 312 = rootsL from wl_cubes]
  rw [List.getElem?_map, List.getElem?_take, if_pos (by omega)]
  simp [List.getD, show k < rootsL.length by rw [roots_len]; exact hk]
theorem square_at {k : Nat} (hk : k < 8) : (((wl 2 312).take (k + 1)).map w32)[k]? = some (w32 (startL.getD k 0)) := by
  have h : ((wl 2 312).take 8) = startL := wl_squares
  have e : (wl 2 312).take (k + 1) = startL.take (k + 1) := by rw [← h, List.take_take, Nat.min_eq_left (by omega)]
  rw [e, List.getElem?_map, List.getElem?_take, if_pos (by omega)]
  simp [List.getD, show k < startL.length from hk]

set_option maxRecDepth 100000 in
set_option maxHeartbeats 4000000 in
theorem roots_walk (w : World) (hr : Roots w) (a : Int) :
    Gives Tryd.prog 8 [.int .i64 a] [] w (X := Unit) (fun _ => .bool true) (fun _ => True) (fun _ => []) := by
  refine gives_S Tryd.func8 rfl Tryd.ntmps8 Tryd.results8 (by simp) (St.enter w) (fun B hB => ?_)
  obtain ⟨u, hu⟩ : ∃ u : Nat, IntKind.u64.wrap a = (u : Int) := ⟨(IntKind.u64.wrap a).toNat, by rw [IntKind.wrap_u64]; omega⟩
  obtain ⟨k, hk⟩ : ∃ k, u % 64 = k := ⟨_, rfl⟩
  have hk64 : k < 64 := by omega
  have h8 : k % 8 < 8 := by omega
  have hl8 : (startL.map w32).length = 8 := rfl
  have hmod : Value.int .u64 ((u % 64 : Nat) : Int) = .int .u64 (k : Int) := by rw [hk]
  focus (refine S_seq rfl ?_; refine S_region rfl rfl ?_; refine R_p rfl ?_ rfl rfl; refine R_nil ?_; refine S_seq rfl ?_; refine S_seq rfl ?_; refine S_region rfl rfl ?_; (refine R_eff (E_wakes hr (noOwns 0)) ?_ rfl rfl; rintro _ _ ⟨rfl, rfl⟩); refine R_take (T_not rfl) ?_ rfl rfl; refine R_nil ?_; refine S_false rfl rfl ?_; refine S_skip rfl ?_; refine S_seq rfl ?_; refine S_region rfl rfl ?_; refine R_p rfl ?_ rfl rfl; refine R_take (T_cast (T_conv (kk := .i64) (kd := .u64) (z := a) rfl rfl rfl rfl) (congrArg (Value.int .u64) hu)) ?_ rfl rfl; refine R_take (T_cast (T_modN (p := u) (q := 64) rfl rfl (by decide)) hmod) ?_ rfl rfl; refine R_take (T_convf rfl rfl rfl rfl (by unfold fits; omega)) ?_ rfl rfl; refine R_p rfl ?_ rfl rfl; refine R_nil ?_; refine S_seq rfl ?_; refine S_region rfl rfl ?_; (refine R_eff (E_constants hr (noOwns 0)) ?_ rfl rfl; rintro _ _ ⟨rfl, rfl⟩); (refine R_eff E_start ?_ rfl rfl; rintro _ _ ⟨rfl, rfl⟩); (refine R_eff (E_alloca rfl z64_alloc) ?_ rfl rfl; rintro _ _ ⟨b4, rfl, rfl⟩); (refine R_eff (E_alloca rfl z8_alloc) ?_ rfl rfl; rintro _ _ ⟨b5, rfl, rfl⟩); (refine R_eff0 (E_storew (ds := rootsL.map w32) (cs := List.replicate 64 (.int .u32 0)) rfl rfl rfl roots64 (w32_ones _) rfl) ?_ rfl; rintro _ _ rfl); (refine R_eff0 (E_storew (ds := startL.map w32) (cs := List.replicate 8 (.int .u32 0)) rfl rfl rfl rfl (w32_ones _) rfl) ?_ rfl; rintro _ _ rfl); refine R_nil ?_; refine S_seq rfl ?_; refine S_region rfl rfl ?_; refine R_p rfl ?_ rfl rfl; refine R_take (T_addN rfl rfl (by unfold fits; omega)) ?_ rfl rfl; (refine R_eff (E_words (m := k + 1) (k := 3) rfl rfl (by omega) (by omega) (by decide)) ?_ rfl rfl; rintro _ _ ⟨A6, c6, hne6, rfl, rfl⟩); refine R_p rfl ?_ rfl rfl; refine R_take (T_modN (p := k) (q := 8) rfl rfl (by decide)) ?_ rfl rfl; refine R_take (T_addN rfl rfl (by unfold fits; omega)) ?_ rfl rfl; (refine R_eff (E_words (m := k % 8 + 1) (k := 2) rfl rfl (by omega) (by omega) (by decide)) ?_ rfl rfl; rintro _ _ ⟨A7, c7, hne7, rfl, rfl⟩); refine R_p rfl ?_ rfl rfl; refine R_p rfl ?_ rfl rfl; refine R_nil ?_; refine S_seq rfl ?_; refine S_seq rfl ?_)
  refine S_draw ([pt b4 48 (rootsL.map w32), pt b5 23 (startL.map w32), row 22 1 A6 (k + 1) c6 (((wl 3 312).take (k + 1)).map w32), row 22 1 A7 (k % 8 + 1) c7 (((wl 2 312).take (k % 8 + 1)).map w32)]) sub_st (by kernel_rfl) rfl (by kernel_rfl) (by kernel_rfl : _ = 26) ?_
  refine D_take 0 rfl (pev_ok rfl) ?_ rfl rfl (by kernel_rfl) (by kernel_rfl)
  refine D_take 1 rfl (T_ixaN rfl rfl rfl rfl rfl rfl (by omega)) ?_ rfl rfl (by kernel_rfl) (by kernel_rfl)
  refine D_take 2 rfl (T_load rfl rfl rfl (map_at0 w32 0 (l := rootsL) (j := k) hk64)) ?_ rfl rfl (by kernel_rfl) (by kernel_rfl)
  refine D_take 3 rfl (pev_ok rfl) ?_ rfl rfl (by kernel_rfl) (by kernel_rfl)
  refine D_take 4 rfl (pev_ok rfl) ?_ rfl rfl (by kernel_rfl) (by kernel_rfl)
  refine D_take 5 rfl (T_ixN (q := k) rfl rfl rfl rfl rfl rfl hne6 (by omega)) ?_ rfl rfl (by kernel_rfl) (by kernel_rfl)
  refine D_take 6 rfl (T_ldr (sz := 1) (m := k + 1) (v := w32 (rootsL.getD k 0)) rfl rfl rfl (Srd.row (c := c6)) (by omega) (cube_at hk64)) ?_ rfl rfl (by kernel_rfl) (by kernel_rfl)
  refine D_take 7 rfl (T_decF (p := ¬ (((rootsL.getD k 0).toNat : Int) = ((rootsL.getD k 0).toNat : Int))) rfl (by omega)) ?_ rfl rfl (by kernel_rfl) (by kernel_rfl)
  refine D_take 8 rfl (pev_ok rfl) ?_ rfl rfl (by kernel_rfl) (by kernel_rfl)
  refine D_take 9 rfl (pev_ok rfl) ?_ rfl rfl (by kernel_rfl) (by kernel_rfl)
  refine D_take 10 rfl (T_modN (p := k) (q := 8) rfl rfl (by decide)) ?_ rfl rfl (by kernel_rfl) (by kernel_rfl)
  refine D_take 11 rfl (T_ixaN rfl rfl rfl rfl rfl rfl (by omega)) ?_ rfl rfl (by kernel_rfl) (by kernel_rfl)
  refine D_take 12 rfl (T_load rfl rfl rfl (map_at0 w32 0 (l := startL) (j := k % 8) h8)) ?_ rfl rfl (by kernel_rfl) (by kernel_rfl)
  refine D_take 13 rfl (pev_ok rfl) ?_ rfl rfl (by kernel_rfl) (by kernel_rfl)
  refine D_take 14 rfl (pev_ok rfl) ?_ rfl rfl (by kernel_rfl) (by kernel_rfl)
  refine D_take 15 rfl (T_modN (p := k) (q := 8) rfl rfl (by decide)) ?_ rfl rfl (by kernel_rfl) (by kernel_rfl)
  refine D_take 16 rfl (T_ixN (q := k % 8) rfl rfl rfl rfl rfl rfl hne7 (by omega)) ?_ rfl rfl (by kernel_rfl) (by kernel_rfl)
  refine D_take 17 rfl (T_ldr (sz := 1) (m := k % 8 + 1) (v := w32 (startL.getD (k % 8) 0)) rfl rfl rfl (Srd.row (c := c7)) (by omega) (square_at h8)) ?_ rfl rfl (by kernel_rfl) (by kernel_rfl)
  refine D_take 18 rfl (T_decF (p := ¬ (((startL.getD (k % 8) 0).toNat : Int) = ((startL.getD (k % 8) 0).toNat : Int))) rfl (by omega)) ?_ rfl rfl (by kernel_rfl) (by kernel_rfl)
  refine D_take 19 rfl (pev_ok rfl) ?_ rfl rfl (by kernel_rfl) (by kernel_rfl)
  refine D_take 20 rfl (pev_ok rfl) ?_ rfl rfl (by kernel_rfl) (by kernel_rfl)
  refine D_take 21 rfl (T_slarr rfl rfl rfl rfl) ?_ rfl rfl (by kernel_rfl) (by kernel_rfl)
  refine D_one 22 rfl (E_known) ?_ rfl rfl (by kernel_rfl)
  rintro _ _ ⟨gk, rfl, rfl⟩
  refine Nx_same sub_st ?_
  refine D_one 23 rfl (E_eqwS rootsL rfl rfl (Srd.pt roots64 (fun q v hq => by rw [Nat.zero_add]; exact hq)) (Srd.pt roots64 (fun q v hq => by rw [Nat.zero_add]; exact hq)) (by decide)) ?_ rfl rfl (by kernel_rfl)
  rintro _ _ ⟨rfl, rfl⟩
  refine Nx_same sub_st ?_
  refine D_take 24 rfl (T_not rfl) ?_ rfl rfl (by kernel_rfl) (by kernel_rfl)
  refine D_take 25 rfl (pev_ok rfl) ?_ rfl rfl (by kernel_rfl) (by kernel_rfl)
  refine D_done ?_ (by kernel_rfl)
  skip
  focus (refine S_false rfl rfl ?_; refine S_skip rfl ?_; refine S_seq rfl ?_; refine S_region rfl rfl ?_; refine R_p rfl ?_ rfl rfl; refine R_take (T_ixaN rfl rfl rfl rfl rfl rfl (by omega)) ?_ rfl rfl; refine R_take (T_load rfl rfl rfl (map_at0 w32 0 (l := rootsL) (j := k) hk64)) ?_ rfl rfl; refine R_take (T_w32 (op := .add) (b := 1) rfl rfl rfl) ?_ rfl rfl; refine R_take (T_ixaN rfl rfl rfl rfl rfl rfl (by omega)) ?_ rfl rfl; (refine R_eff0 (E_store1 (cs := rootsL.map w32) rfl rfl rfl rfl rfl rfl (by rw [roots64]; omega)) ?_ rfl; rintro _ _ rfl); refine R_nil ?_; refine S_seq rfl ?_; refine S_region rfl rfl ?_; refine R_p rfl ?_ rfl rfl; refine R_take (T_modN (p := k) (q := 8) rfl rfl (by decide)) ?_ rfl rfl; refine R_take (T_ixaN rfl rfl rfl rfl rfl rfl (by omega)) ?_ rfl rfl; refine R_take (T_load rfl rfl rfl (map_at0 w32 0 (l := startL) (j := k % 8) h8)) ?_ rfl rfl; refine R_take (T_w32 (op := .add) (b := 1) rfl rfl rfl) ?_ rfl rfl; refine R_take (T_ixaN rfl rfl rfl rfl rfl rfl (by omega)) ?_ rfl rfl; (refine R_eff0 (E_store1 (cs := startL.map w32) rfl rfl rfl rfl rfl rfl (by rw [hl8]; omega)) ?_ rfl; rintro _ _ rfl); refine R_nil ?_; refine S_seq rfl ?_)
  refine S_draw ([row 22 1 A6 (k + 1) c6 (((wl 3 312).take (k + 1)).map w32), row 22 1 A7 (k % 8 + 1) c7 (((wl 2 312).take (k % 8 + 1)).map w32)]) sub_st (by kernel_rfl) rfl (by kernel_rfl) (by kernel_rfl : _ = 21) ?_
  refine D_take 1 rfl (pev_ok rfl) ?_ rfl rfl (by kernel_rfl) (by kernel_rfl)
  refine D_take 3 rfl (pev_ok rfl) ?_ rfl rfl (by kernel_rfl) (by kernel_rfl)
  refine D_take 4 rfl (pev_ok rfl) ?_ rfl rfl (by kernel_rfl) (by kernel_rfl)
  refine D_take 5 rfl (T_ixN (q := k) rfl rfl rfl rfl rfl rfl hne6 (by omega)) ?_ rfl rfl (by kernel_rfl) (by kernel_rfl)
  refine D_take 6 rfl (T_ldr (sz := 1) (m := k + 1) (v := w32 (rootsL.getD k 0)) rfl rfl rfl (Srd.row (c := c6)) (by omega) (cube_at hk64)) ?_ rfl rfl (by kernel_rfl) (by kernel_rfl)
  refine D_one 0 rfl (E_constants hr (noOwns 0)) ?_ rfl rfl (by kernel_rfl)
  rintro _ _ ⟨rfl, rfl⟩
  refine Nx_same sub_st ?_
  refine D_take 2 rfl (T_ixv (q := k) (v := w32 (rootsL.getD k 0)) rfl rfl rfl rfl rfl rfl rfl (by omega) (map_at w32 0 (l := rootsL) (j := k) hk64)) ?_ rfl rfl (by kernel_rfl) (by kernel_rfl)
  refine D_take 7 rfl (T_decT (p := ((rootsL.getD k 0).toNat : Int) = ((rootsL.getD k 0).toNat : Int)) rfl (by omega)) ?_ rfl rfl (by kernel_rfl) (by kernel_rfl)
  refine D_take 8 rfl (pev_ok rfl) ?_ rfl rfl (by kernel_rfl) (by kernel_rfl)
  refine D_take 10 rfl (pev_ok rfl) ?_ rfl rfl (by kernel_rfl) (by kernel_rfl)
  refine D_take 11 rfl (T_modN (p := k) (q := 8) rfl rfl (by decide)) ?_ rfl rfl (by kernel_rfl) (by kernel_rfl)
  refine D_take 13 rfl (pev_ok rfl) ?_ rfl rfl (by kernel_rfl) (by kernel_rfl)
  refine D_take 14 rfl (pev_ok rfl) ?_ rfl rfl (by kernel_rfl) (by kernel_rfl)
  refine D_take 15 rfl (T_modN (p := k) (q := 8) rfl rfl (by decide)) ?_ rfl rfl (by kernel_rfl) (by kernel_rfl)
  refine D_take 16 rfl (T_ixN (q := k % 8) rfl rfl rfl rfl rfl rfl hne7 (by omega)) ?_ rfl rfl (by kernel_rfl) (by kernel_rfl)
  refine D_take 17 rfl (T_ldr (sz := 1) (m := k % 8 + 1) (v := w32 (startL.getD (k % 8) 0)) rfl rfl rfl (Srd.row (c := c7)) (by omega) (square_at h8)) ?_ rfl rfl (by kernel_rfl) (by kernel_rfl)
  refine D_one 9 rfl (E_start) ?_ rfl rfl (by kernel_rfl)
  rintro _ _ ⟨rfl, rfl⟩
  refine Nx_same sub_st ?_
  refine D_take 12 rfl (T_ixv (q := k % 8) (v := w32 (startL.getD (k % 8) 0)) rfl rfl rfl rfl rfl rfl rfl (by omega) (map_at w32 0 (l := startL) (j := k % 8) h8)) ?_ rfl rfl (by kernel_rfl) (by kernel_rfl)
  refine D_take 18 rfl (T_decT (p := ((startL.getD (k % 8) 0).toNat : Int) = ((startL.getD (k % 8) 0).toNat : Int)) rfl (by omega)) ?_ rfl rfl (by kernel_rfl) (by kernel_rfl)
  refine D_take 19 rfl (pev_ok rfl) ?_ rfl rfl (by kernel_rfl) (by kernel_rfl)
  refine D_take 20 rfl (pev_ok rfl) ?_ rfl rfl (by kernel_rfl) (by kernel_rfl)
  refine D_done ?_ (by kernel_rfl)
  skip
  skip
  exact hB _ _ _ _ _ rfl rfl fun w' hS => ⟨(), rfl, trivial, hS.sublist (List.nil_sublist _)⟩
theorem ShaRoots_open {H : Type} {enc : TypeId × Value → H} (W : World) {r : Reach} (base : Nat) (v0 : Value) {d0 : DataW H} {p0 : List MemPlace}
    (hv0 : Value.okWide Tryd.prog W r base 3 v0) (h0 : DataW.Trod enc Tryd.prog W 0 (fun _ => true) true 3 v0 d0 p0) (hL : laidMetH Tryd.prog [("confluence/sha.roots", Rows.laid_confluence_sha_roots)] W) :
    Calls Tryd.prog 8 #[v0] W fun e w' => e = .returned (.bool true) ∧ Kp All W w' := by
  obtain ⟨a, rfl⟩ := okWide_int Tryd.underlying3 hv0
  exact (roots_walk W (laid_roots hL) a).pure
end Go.Proofs.YtemgfoakffappaaDoor
