/- Merges by the document: a side, the paths. -/
import Derived.Test.YtghfjfgpiomdhaaMeZ0
namespace Go.Proofs.Ytghfjfgpiomdhaa
open Go.RowKit
open Asn (pt row rb)
set_option linter.unusedVariables false
set_option linter.unusedSimpArgs false
--@use N

set_option maxRecDepth 100000 in
set_option maxHeartbeats 4000000 in
theorem rside_any (w : World) (A : Option Addr) (n c : Nat) (L : List Rw) (p : Str) (h : Rd w All 2 A n (cellsL rwc L)) (hn : n ≤ 100000) :
    Gives Try.prog 48 [.agg #[.slice A n c], sv p] [] w (X := Unit) (fun _ => .agg (sdc (sideOf L p)).toArray) (fun _ => True) (fun _ => []) := by
  refine gives_C Try.func48 rfl Try.ntmps48 Try.results48 (by simp) (St.enter w) (fun B hB => ?_)
  obtain ⟨o, ho⟩ : ∃ o, fstK (·.1) L p = o := ⟨_, rfl⟩
  have hs : sideOf L p = (o.isSome, gt o) := by rw [sideOf, ho]
  rw [hs] at hB
  focus (refine S_seq rfl ?_; refine S_region rfl rfl ?_; (refine R_eff (E_boxa (cs := [.slice A n c]) rfl) ?_ rfl rfl; rintro _ _ ⟨b2, rfl, rfl⟩); (refine R_eff (E_alloca rfl sd_zero) ?_ rfl rfl; rintro _ _ ⟨b4, rfl, rfl⟩); refine R_nil ?_; refine S_seq rfl ?_; refine S_region rfl rfl ?_; refine R_take (T_loada (ds := [.slice A n c]) rfl rfl rfl rfl (fun j v h => by simpa using h)) ?_ rfl rfl; refine R_p rfl ?_ rfl rfl; (refine R_eff (E_rgetW (L := L) (p := p) (m := n) (c := c) (A := A) rfl rfl (Srd.old h (fun k _ => noOwns k)) hn ho) ?_ rfl rfl; rintro _ _ ⟨rfl, rfl⟩); refine R_p rfl ?_ rfl rfl; refine R_p rfl ?_ rfl rfl; refine R_p rfl ?_ rfl rfl; refine R_p rfl ?_ rfl rfl; refine R_p rfl ?_ rfl rfl; refine R_nil ?_; refine S_seq rfl ?_; refine S_region rfl rfl ?_; refine R_p rfl ?_ rfl rfl; refine R_p rfl ?_ rfl rfl; refine R_take (T_build2 rfl rfl (sd_built2 _ _)) ?_ rfl rfl; (refine R_eff0 (E_storew (cs := sdc default) (ds := sdc (o.isSome, gt o)) rfl rfl rfl rfl (sdc_one _) rfl) ?_ rfl; rintro _ _ rfl); refine R_nil ?_)
  refine hB _ _ _ _ _ rfl (.cell rfl rfl rfl inferInstance rfl .nil) fun w' hS => ⟨(), rfl, trivial, hS.sublist (List.nil_sublist _)⟩
/-- the paths of three maps, by the document -/
def pathsR (L1 L2 L3 : List Rw) : List Str := pathsS (pathsS (pathsS [] (L1.map (·.1))) (L2.map (·.1))) (L3.map (·.1))
theorem pathsR_srt (L1 L2 L3 : List Rw) : Srt id (pathsR L1 L2 L3) := paths_srt (paths_srt (paths_srt List.Pairwise.nil _) _) _
theorem pathsR_len (L1 L2 L3 : List Rw) : (pathsR L1 L2 L3).length ≤ L1.length + L2.length + L3.length := by
  have h1 := paths_len [] (L1.map (·.1))
  have h2 := paths_len (pathsS [] (L1.map (·.1))) (L2.map (·.1))
  have h3 := paths_len (pathsS (pathsS [] (L1.map (·.1))) (L2.map (·.1))) (L3.map (·.1))
  simp only [List.length_map, List.length_nil] at h1 h2 h3
  rw [pathsR]
  omega
set_option maxRecDepth 100000 in
set_option maxHeartbeats 4000000 in
theorem r3paths_any (w : World) (A1 A2 A3 : Option Addr) (c1' c2' c3' : Nat) (L1 L2 L3 : List Rw) (h1 : Rd w All 2 A1 L1.length (cellsL rwc L1)) (h2 : Rd w All 2 A2 L2.length (cellsL rwc L2)) (h3 : Rd w All 2 A3 L3.length (cellsL rwc L3)) (hn1 : L1.length ≤ 250) (hn2 : L2.length ≤ 250) (hn3 : L3.length ≤ 250) :
    Gives Try.prog 47 [.agg #[.slice A1 L1.length c1'], .agg #[.slice A2 L2.length c2'], .agg #[.slice A3 L3.length c3']] [] w (X := Option Addr × Nat) (fun x => .slice x.1 (pathsR L1 L2 L3).length x.2) (fun _ => True) (fun x => [row 9 1 x.1 (pathsR L1 L2 L3).length x.2 ((pathsR L1 L2 L3).map sv)]) := by
  refine gives_S Try.func47 rfl Try.ntmps47 Try.results47 (by simp) (St.enter w) (fun B hB => ?_)
  obtain ⟨l1, hl1⟩ : ∃ l, pathsS [] (L1.map (·.1)) = l := ⟨_, rfl⟩
  obtain ⟨l2, hl2⟩ : ∃ l, pathsS l1 (L2.map (·.1)) = l := ⟨_, rfl⟩
  obtain ⟨l3, hl3⟩ : ∃ l, pathsS l2 (L3.map (·.1)) = l := ⟨_, rfl⟩
  have hl : pathsR L1 L2 L3 = l3 := by rw [pathsR, hl1, hl2, hl3]
  rw [hl] at hB
  have hs1 : Srt id l1 := by rw [← hl1]; exact paths_srt List.Pairwise.nil _
  have hs2 : Srt id l2 := by rw [← hl2]; exact paths_srt hs1 _
  have hn1' := paths_len [] (L1.map (·.1))
  have hn2' := paths_len l1 (L2.map (·.1))
  have hn3' := paths_len l2 (L3.map (·.1))
  rw [hl1] at hn1'
  rw [hl2] at hn2'
  rw [hl3] at hn3'
  simp only [List.length_map, List.length_nil] at hn1' hn2' hn3'
  focus (refine S_seq rfl ?_; refine S_region rfl rfl ?_; (refine R_eff (E_boxa (cs := [.slice A1 L1.length c1']) rfl) ?_ rfl rfl; rintro _ _ ⟨b1, rfl, rfl⟩); (refine R_eff (E_boxa (cs := [.slice A2 L2.length c2']) rfl) ?_ rfl rfl; rintro _ _ ⟨b2, rfl, rfl⟩); (refine R_eff (E_boxa (cs := [.slice A3 L3.length c3']) rfl) ?_ rfl rfl; rintro _ _ ⟨b3, rfl, rfl⟩); refine R_p rfl ?_ rfl rfl; refine R_nil ?_; refine S_seq rfl ?_)
  refine S_draw ([pt b3 24 [.slice A3 L3.length c3'], pt b2 24 [.slice A2 L2.length c2'], pt b1 24 [.slice A1 L1.length c1']]) sub_st (by kernel_rfl) rfl (by kernel_rfl) (by kernel_rfl : _ = 7) ?_
  refine D_take 0 rfl (T_loada (ds := [.slice A1 L1.length c1']) rfl rfl rfl rfl (fun j v h => by simpa using h)) ?_ rfl rfl (by kernel_rfl) (by kernel_rfl)
  refine D_take 2 rfl (T_loada (ds := [.slice A2 L2.length c2']) rfl rfl rfl rfl (fun j v h => by simpa using h)) ?_ rfl rfl (by kernel_rfl) (by kernel_rfl)
  refine D_take 4 rfl (T_loada (ds := [.slice A3 L3.length c3']) rfl rfl rfl rfl (fun j v h => by simpa using h)) ?_ rfl rfl (by kernel_rfl) (by kernel_rfl)
  refine D_one 1 rfl (E_rpaths0 (L := L1) (fun k => noOwns k) rfl rfl h1 (by omega)) ?_ rfl rfl (by kernel_rfl)
  rintro _ _ ⟨A5, c5, rfl, rfl⟩; rw [hl1]
  refine Nx_same sub_st ?_
  refine D_one 3 rfl (E_gt1 (A1 := row 9 1 A5 l1.length c5 (l1.map sv)) (f := 60) ⟨_, Try.func60, rfl, by kernel_rfl⟩ rfl (fun w hS hS2 => rpaths_any w A5 A2 l1.length c5 L2.length c2' l1 L2 hs1 (rd_apart h2 (by decide) (fun k => noOwns k) hS) (by omega) hS2) (fun _ => rfl)) ?_ rfl rfl (by kernel_rfl)
  rintro _ _ ⟨⟨A6, c6⟩, rfl, _, rfl⟩; rw [hl2]
  refine Nx_same sub_st ?_
  refine D_one 5 rfl (E_gt1 (A1 := row 9 1 A6 l2.length c6 (l2.map sv)) (f := 60) ⟨_, Try.func60, rfl, by kernel_rfl⟩ rfl (fun w hS hS2 => rpaths_any w A6 A3 l2.length c6 L3.length c3' l2 L3 hs2 (rd_apart h3 (by decide) (fun k => noOwns k) hS) (by omega) hS2) (fun _ => rfl)) ?_ rfl rfl (by kernel_rfl)
  rintro _ _ ⟨⟨A7, c7⟩, rfl, _, rfl⟩; rw [hl3]
  refine Nx_same sub_st ?_
  refine D_take 6 rfl (pev_ok rfl) ?_ rfl rfl (by kernel_rfl) (by kernel_rfl)
  refine D_done ?_ (by kernel_rfl)
  skip
  skip
  exact hB _ _ _ _ _ rfl rfl fun w' hS => ⟨(A7, c7), rfl, trivial, sub_st _ hS⟩
end Go.Proofs.Ytghfjfgpiomdhaa
