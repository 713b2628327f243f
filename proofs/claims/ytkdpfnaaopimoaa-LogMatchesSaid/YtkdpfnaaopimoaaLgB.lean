/- The laws' own functions: short, first, wakes. -/
import Derived.Test.YtkdpfnaaopimoaaLgA
namespace Go.Proofs.Ytkdpfnaaopimoaa
open Go.RowKit
open Asn (pt row rb)
set_option linter.unusedVariables false
set_option linter.unusedSimpArgs false
--@use N

set_option maxRecDepth 100000 in
set_option maxHeartbeats 4000000 in
theorem short_any (w : World) (a : At) (A : Option Addr) (c : Nat) (Q : List Em) (h : Rd w All 3 A Q.length (cellsL emc Q)) (hd : RDt w All (Q.map emd)) (hcap : ∀ m ∈ Q, m.2.2.2.2.length ≤ m.2.2.2.1) :
    Gives Try.prog 11 [.agg (lgc a A Q.length c).toArray] [] w (X := (Option Addr × Nat) × List Em) (fun x => .agg (lgc a x.1.1 (cutE (Q.map emv) 17).length x.1.2).toArray) (fun x => x.2.map emv = cutE (Q.map emv) 17 ∧ (cutE (Q.map emv) 17).length ≤ x.1.2 ∧ ∀ m ∈ x.2, m.2.2.2.2.length ≤ m.2.2.2.1) (fun x => [row 44 3 x.1.1 (cutE (Q.map emv) 17).length x.1.2 (cellsL emc x.2), dtB 5 (x.2.map emd)]) := by
  refine gives_C Try.func11 rfl Try.ntmps11 Try.results11 (by simp) (St.enter w) (fun B hB => ?_)
  obtain ⟨i, t⟩ := a
  focus (refine S_seq rfl ?_; refine S_region rfl rfl ?_; (refine R_eff (E_boxa (cs := lgc (i, t) A Q.length c) rfl) ?_ rfl rfl; rintro _ _ ⟨b1, rfl, rfl⟩); (refine R_eff (E_alloca rfl lg_zero) ?_ rfl rfl; rintro _ _ ⟨b2, rfl, rfl⟩); refine R_nil ?_; refine S_seq rfl ?_)
  refine S_draw ([pt b1 27 (lgc (i, t) A Q.length c)]) sub_st (by kernel_rfl) rfl (by kernel_rfl) (by kernel_rfl : _ = 7) ?_
  refine D_take 0 rfl (pev_ok rfl) ?_ rfl rfl (by kernel_rfl) (by kernel_rfl)
  refine D_take 1 rfl (T_loads (ds := atc (i, t)) rfl rfl rfl rfl rfl) ?_ rfl rfl (by kernel_rfl) (by kernel_rfl)
  refine D_take 2 rfl (pev_ok rfl) ?_ rfl rfl (by kernel_rfl) (by kernel_rfl)
  refine D_take 3 rfl (T_load rfl rfl rfl rfl) ?_ rfl rfl (by kernel_rfl) (by kernel_rfl)
  refine D_one 4 rfl (E_gv ⟨_, Try.func12, rfl, by kernel_rfl⟩ rfl (fun w hS => entriesL_any w A c Q ((Srd.old h (fun k _ => noOwns k)).rd w hS) ((SDt.old hd (fun k _ => noOwns k)).rd w hS) hcap 17 (by omega))) ?_ rfl rfl (by kernel_rfl)
  rintro _ _ ⟨⟨⟨A5, c5⟩, P⟩, rfl, hP, rfl⟩; dsimp only [List.cons_append, List.nil_append]
  refine Nx_same sub_st ?_
  refine D_take 5 rfl (T_build2 rfl rfl (lg_built2 (i, t) _ _ _)) ?_ rfl rfl (by kernel_rfl) (by kernel_rfl)
  refine D_one 6 rfl (E_storew (cs := lgc (0, 0) none 0 0) (ds := lgc (i, t) A5 (cutE (Q.map emv) 17).length c5) rfl rfl rfl rfl (lgc_one _ _ _ _) rfl) ?_ rfl rfl (by kernel_rfl)
  rintro _ _ rfl
  refine Nx_same sub_st ?_
  refine D_done ?_ (by kernel_rfl)
  skip
  skip
  refine hB _ _ _ _ _ rfl (.cell rfl rfl rfl inferInstance rfl .nil) fun w' hS => ⟨((A5, c5), P), rfl, hP, sub_st _ hS⟩
def fstQ (b : Nat) : List Em := [(1, 1, none, 0, []), (1, 2, some ⟨b, 0, none⟩, 1, [7]), (2, 3, none, 0, [])]
def fstL : List En := [(1, 1, []), (1, 2, [7]), (2, 3, [])]
theorem fst_emv (b : Nat) : (fstQ b).map emv = fstL := rfl
theorem em_built2 (t k : Int) : Try.prog.built 44 [(0, .int .u64 t), (1, .int .i64 k)] = some [Value.int .u64 t, .int .i64 k, .slice none 0 0].toArray := by kernel_rfl
theorem em_built3 (t k : Int) (A : Option Addr) (n c : Nat) : Try.prog.built 44 [(0, .int .u64 t), (1, .int .i64 k), (2, .slice A n c)] = some [Value.int .u64 t, .int .i64 k, .slice A n c].toArray := by kernel_rfl
theorem lg_built1 (A : Option Addr) (n c : Nat) : Try.prog.built 27 [(1, .slice A n c)] = some (lgc (0, 0) A n c).toArray := by kernel_rfl
set_option maxRecDepth 100000 in
set_option maxHeartbeats 4000000 in
theorem first_any (w : World) :
    Gives Try.prog 38 [] [] w (X := Nat × Nat) (fun x => .agg (lgc (0, 0) (some ⟨x.1, 0, none⟩) 3 3).toArray) (fun _ => True) (fun x => [pt x.1 44 (cellsL emc (fstQ x.2)), pt x.2 5 [bv 7]]) := by
  refine gives_C Try.func38 rfl Try.ntmps38 Try.results38 (by simp) (St.enter w) (fun B hB => ?_)
  focus (refine S_seq rfl ?_; refine S_region rfl rfl ?_; (refine R_eff (E_alloca rfl lg_zero) ?_ rfl rfl; rintro _ _ ⟨b0, rfl, rfl⟩); refine R_nil ?_; refine S_seq rfl ?_; refine S_region rfl rfl ?_; refine R_take (T_build2 rfl rfl (em_built2 _ _)) ?_ rfl rfl; (refine R_eff (E_lit1 (m := 1) (vs := [bv 7]) rfl rfl rfl rfl rfl rfl rfl (by simp [bv, Value.oneCell']) (by decide)) ?_ rfl rfl; rintro _ _ ⟨bl, rfl, rfl⟩); refine R_take (T_build3 rfl rfl rfl (em_built3 _ _ _ _ _)) ?_ rfl rfl; refine R_take (T_build2 rfl rfl (em_built2 _ _)) ?_ rfl rfl; (refine R_eff (E_litS (vs := [.agg [.int .u64 1, .int .i64 1, .slice none 0 0].toArray, .agg [.int .u64 1, .int .i64 2, .slice (some ⟨bl, 0, none⟩) 1 1].toArray, .agg [.int .u64 2, .int .i64 3, .slice none 0 0].toArray]) (size := 3) (ds := cellsL emc (fstQ bl)) rfl rfl rfl rfl rfl rfl (by simp [vcells]) rfl (by omega)) ?_ rfl rfl; rintro _ _ ⟨bs, rfl, rfl⟩); refine R_take (T_build1 rfl (lg_built1 _ _ _)) ?_ rfl rfl; (refine R_eff0 (E_storew (cs := lgc (0, 0) none 0 0) (ds := lgc (0, 0) (some ⟨bs, 0, none⟩) 3 3) rfl rfl rfl rfl (lgc_one _ _ _ _) rfl) ?_ rfl; rintro _ _ rfl); refine R_nil ?_)
  refine hB _ _ _ _ _ rfl (.cell rfl rfl rfl inferInstance rfl .nil) fun w' hS => ⟨(bs, bl), rfl, trivial, sub_st _ hS⟩
def wkE : List En := [(1, 1, []), (1, 2, [7]), (3, 1, [])]
def wkD : List En := [(2, 3, [])]
theorem wkS : spl (0, 0) fstL (2, 1) [(3, 1, [])] = (0, 3, (0, 0), wkE) := by kernel_rfl
theorem wkC : cmp (0, 0) fstL 2 = (0, (2, 1), wkD) := by kernel_rfl
theorem wkT : termR (0, 0) fstL 2 = (1, true) := by kernel_rfl
theorem wkR : rightB (2, 1) wkD = true := by kernel_rfl
theorem wkA : lastA (2, 1) wkD = (3, 2) := by kernel_rfl
theorem fst_rdt {w : World} {b : Nat} (h : Rd w All 1 (some ⟨b, 0, none⟩) 1 [bv 7]) : RDt w All ((fstQ b).map emd) := fun d hd => by
  simp only [fstQ, List.map_cons, List.map_nil, List.mem_cons, List.not_mem_nil, or_false] at hd
  rcases hd with rfl | rfl | rfl
  · exact Rd.none_
  · exact h
  · exact Rd.none_
end Go.Proofs.Ytkdpfnaaopimoaa
