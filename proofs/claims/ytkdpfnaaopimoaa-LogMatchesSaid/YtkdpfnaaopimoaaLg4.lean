/- Logs: find. -/
import Derived.Test.YtkdpfnaaopimoaaLg3
namespace Go.Proofs.Ytkdpfnaaopimoaa
open Go.RowKit
open Asn (pt row rb)
set_option linter.unusedVariables false
set_option linter.unusedSimpArgs false
--@use N

/-- the place of an index, and its number -/
def findR (a : At) (l : List En) (idx : Nat) : Int × At := if a.1 ≤ idx ∧ idx ≤ a.1 + l.length then ((idx - a.1 : Nat), placeN a l (idx - a.1)) else (-1, (0, 0))
theorem placeN_fst (a : At) (l : List En) (j : Nat) : (placeN a l j).1 = a.1 + j := by
  unfold placeN
  split
  · rename_i h; rw [h]; rfl
  · rfl
theorem findR_hit {a : At} {l : List En} {idx j : Nat} (hj : j < l.length + 1) (h : (placeN a l j).1 = idx) : findR a l idx = ((j : Int), placeN a l j) := by
  rw [placeN_fst] at h
  unfold findR
  rw [if_pos ⟨by omega, by omega⟩, show idx - a.1 = j by omega]
theorem findR_not {a : At} {l : List En} {idx : Nat} (h : ∀ j, j < l.length + 1 → (placeN a l j).1 ≠ idx) : findR a l idx = (-1, (0, 0)) := by
  unfold findR
  refine if_neg fun ⟨h1, h2⟩ => ?_
  have := h (idx - a.1) (by omega)
  rw [placeN_fst] at this
  omega
set_option maxRecDepth 100000 in
set_option maxHeartbeats 4000000 in
theorem find_any (w : World) (a : At) (A : Option Addr) (c : Nat) (Q : List Em) (h : Rd w All 3 A Q.length (cellsL emc Q)) (hn : Q.length ≤ 100000) (hf : a.1 + Q.length ≤ 18446744073709551615) (idx : Nat) :
    Gives Try.prog 51 [.agg (lgc a A Q.length c).toArray, .int .u64 (idx : Int)] [] w (X := Unit) (fun _ => .tuple #[zi (findR a (Q.map emv) idx).1, .agg (atc (findR a (Q.map emv) idx).2).toArray]) (fun _ => True) (fun _ => []) := by
  refine gives_M Try.func51 rfl Try.ntmps51 Try.results51 (by simp) (St.enter w) (fun B hB0 hB => ?_)
  obtain ⟨i, t⟩ := a
  obtain ⟨l, hl⟩ : ∃ l, Q.map emv = l := ⟨_, rfl⟩
  have hll : l.length = Q.length := by rw [← hl, List.length_map]
  focus (refine S_seq rfl ?_; refine S_region rfl rfl ?_; (refine R_eff (E_boxa (cs := lgc (i, t) A Q.length c) rfl) ?_ rfl rfl; rintro _ _ ⟨b2, rfl, rfl⟩); (refine R_eff (E_box1 (v := .int .u64 (idx : Int)) rfl rfl) ?_ rfl rfl; rintro _ _ ⟨b3, rfl, rfl⟩); (refine R_eff (E_alloc1 (v := .int .i64 0) rfl rfl rfl) ?_ rfl rfl; rintro _ _ ⟨b4, rfl, rfl⟩); (refine R_eff (E_alloca rfl at_zero) ?_ rfl rfl; rintro _ _ ⟨b5, rfl, rfl⟩); refine R_nil ?_; refine S_seq rfl ?_; refine S_seq rfl ?_; refine S_region rfl rfl ?_; refine R_take (T_loads (ds := lgc (i, t) A Q.length c) rfl rfl rfl rfl rfl) ?_ rfl rfl; (refine R_eff (E_hv1 (f := 54) ⟨_, Try.func54, rfl, by kernel_rfl⟩ (fun w hS => places_any w (i, t) A Q.length c) rfl rfl (fun _ => rfl)) ?_ rfl rfl; rintro _ _ ⟨bI, rfl, _, rfl⟩); refine R_nil ?_; refine S_block rfl ?_)
  refine S_range (F := fun k => k < w.heap.size ∨ k = bI) (es := plcs (i, t) l) (ps := [10, 11]) (X := Int × At) (fun x => [pt b4 3 [.int .i64 x.1], pt b5 24 (atc x.2)]) (fun j x => x = (0, (0, 0)) ∧ ∀ q, q < j → (placeN (i, t) l q).1 ≠ idx) (fun j x => x = ((j : Int), placeN (i, t) l j) ∧ (placeN (i, t) l j).1 = idx) (0, (0, 0)) [pt bI 27 (lgc (i, t) A Q.length c), pt b3 22 [.int .u64 (idx : Int)]] rfl rfl ⟨_, Try.func57, rfl, by kernel_rfl⟩ (by kernel_rfl) (fun e he => ?_) ⟨rfl, fun q hq => absurd hq (Nat.not_lt_zero _)⟩ (fun w' hS => sub_st (H' := [pt b4 3 [.int .i64 0], pt b5 24 (atc (0, 0)), pt bI 27 (lgc (i, t) A Q.length c), pt b3 22 [.int .u64 (idx : Int)]]) w' hS) (fun w' hS => ?_) (fun w' hS => reads_ok (b := bI) (Hk := [pt bI 27 (lgc (i, t) A Q.length c), pt b3 22 [.int .u64 (idx : Int)]]) hS) (fun j x w' hx hj hS => ?_) (fun y D hy => ?_) (fun y D j hj hy => ?_)
  · obtain ⟨j, _, rfl⟩ := List.mem_map.1 he
    rfl
  · rw [← hl]
    exact places_iter w' _ bI (i, t) A c Q (rd_blk (b := bI) hS rfl (.inr rfl)) (rd_old h (by decide) (fun k => noOwns k) hS (fun k hk => .inl hk)) hn hf
  · rw [plcs_len] at hj
    obtain ⟨rfl, hno⟩ := hx
    rw [plcs_at _ _ _ hj]
    obtain ⟨p, hp⟩ : ∃ p, placeN (i, t) l j = p := ⟨_, rfl⟩
    rw [hp]
    intro l2 rA rB B0 B1 J hfull hbeg hend hret
    have hC3 := rd_kept (b := b3) hfull rfl
    obtain ⟨pi, pu⟩ := p
    focus (refine S_seq rfl ?_; refine S_region rfl rfl ?_; refine R_p rfl ?_ rfl rfl; refine R_nil ?_; refine S_region rfl rfl ?_; (refine R_eff (E_alloca rfl at_zero) ?_ rfl rfl; rintro _ _ ⟨b7, rfl, rfl⟩); (refine R_eff0 (E_storew (cs := atc (0, 0)) (ds := atc (pi, pu)) rfl rfl rfl rfl (atc_one _) rfl) ?_ rfl; rintro _ _ rfl); refine R_nil ?_)
    refine hbeg _ [pt b7 24 (atc (pi, pu)), pt b4 3 [.int .i64 0], pt b5 24 (atc (0, 0))] _ ?_ sub_st
    by_cases hpi : pi = idx
    · focus (refine S_block rfl ?_; refine S_seq rfl ?_; refine S_region rfl rfl ?_; refine R_p rfl ?_ rfl rfl; refine R_take (T_load rfl rfl rfl rfl) ?_ rfl rfl; refine R_take (T_loadg rfl rfl rfl hC3 (fun k hk => hk) rfl) ?_ rfl rfl; refine R_take (T_decT rfl (by omega)) ?_ rfl rfl; refine R_nil ?_; refine S_true rfl rfl ?_; refine S_seq rfl ?_)
      refine S_drawR ([pt b7 24 (atc (pi, pu))]) sub_st (by kernel_rfl) rfl (by kernel_rfl) (by kernel_rfl) (by kernel_rfl : _ = 4) ?_
      refine D_take 0 rfl (pev_ok rfl) ?_ rfl rfl (by kernel_rfl) (by kernel_rfl)
      refine D_take 1 rfl (T_loads (ds := atc (pi, pu)) rfl rfl rfl rfl rfl) ?_ rfl rfl (by kernel_rfl) (by kernel_rfl)
      refine D_one 2 rfl (E_store1 rfl rfl rfl rfl rfl rfl (by first | (simp; done) | (simp; omega) | decide)) ?_ rfl rfl (by kernel_rfl)
      rintro _ _ rfl
      refine Nx_same sub_st ?_
      refine D_one 3 rfl (E_storew (cs := atc (0, 0)) (ds := atc (pi, pu)) rfl rfl rfl rfl (atc_one _) rfl) ?_ rfl rfl (by kernel_rfl)
      rintro _ _ rfl
      refine Nx_same sub_st ?_
      refine D_done ?_ (by kernel_rfl)
      skip
      skip
      refine hret ((j : Int), (pi, pu)) _ _ _ _ ⟨rfl, hpi⟩ rfl fun w' hS => ?_
      simp only [Nat.add_zero, List.set_cons_zero] at hS
      exact sub_st _ hS
    · focus (refine S_block rfl ?_; refine S_seq rfl ?_; refine S_region rfl rfl ?_; refine R_p rfl ?_ rfl rfl; refine R_take (T_load rfl rfl rfl rfl) ?_ rfl rfl; refine R_take (T_loadg rfl rfl rfl hC3 (fun k hk => hk) rfl) ?_ rfl rfl; refine R_take (T_decF rfl (by omega)) ?_ rfl rfl; refine R_nil ?_; refine S_false rfl rfl ?_; refine S_skip rfl ?_; refine RS_blk ?_)
      refine hend (0, (0, 0)) _ _ ⟨rfl, fun q hq => ?_⟩ sub_st
      rcases Nat.lt_or_ge q j with h3 | h3
      · exact hno q h3
      · rw [show q = j by omega, hp]; exact hpi
  · obtain ⟨rfl, hno⟩ := hy
    rw [plcs_len] at hno
    have hR := findR_not hno
    rw [hl, hR] at hB
    simp only [List.cons_append, List.nil_append]
    focus (refine RS_blk ?_; refine S_seq rfl ?_; refine S_region rfl rfl ?_; refine R_take (T_build0 at_built0) ?_ rfl rfl; (refine R_eff0 (E_store1 rfl rfl rfl rfl rfl rfl (by first | (simp; done) | (simp; omega) | decide)) ?_ rfl; rintro _ _ rfl); (refine R_eff0 (E_storew (cs := atc (0, 0)) (ds := atc (0, 0)) rfl rfl rfl rfl (atc_one _) rfl) ?_ rfl; rintro _ _ rfl); refine R_nil ?_)
    simp only [Nat.add_zero, List.set_cons_zero]
    refine hB _ _ _ _ _ _ _ rfl inferInstance (.cell1 rfl rfl rfl inferInstance (.cell rfl rfl rfl inferInstance rfl .nil)) fun w' hS => ⟨(), rfl, trivial, hS.sublist (List.nil_sublist _)⟩
  · obtain ⟨rfl, hno⟩ := hy
    rw [plcs_len] at hj
    have hR := findR_hit hj hno
    rw [hl, hR] at hB
    simp only [List.cons_append, List.nil_append]
    refine hB _ _ _ _ _ _ _ rfl inferInstance (.cell1 rfl rfl rfl inferInstance (.cell rfl rfl rfl inferInstance rfl .nil)) fun w' hS => ⟨(), rfl, trivial, hS.sublist (List.nil_sublist _)⟩
end Go.Proofs.Ytkdpfnaaopimoaa
