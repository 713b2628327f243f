/- Logs: Same. -/
import Derived.Test.YtkdpfnaaopimoaaLgF
namespace Go.Proofs.Ytkdpfnaaopimoaa
open Go.RowKit
open Asn (pt row rb)
set_option linter.unusedVariables false
set_option linter.unusedSimpArgs false
--@use N

/-- an element's bytes, read whole -/
def BsM (w : World) (m : Em) : Prop := Bs w All m.2.2.1 m.2.2.2.2.length m.2.2.2.1 m.2.2.2.2
set_option maxRecDepth 100000 in
set_option maxHeartbeats 4000000 in
theorem beq_any (w : World) (A A2 : Option Addr) (n c n2 c2 : Nat) (l l2 : List UInt8) (h : Bs w All A n c l) (h2 : Bs w All A2 n2 c2 l2) :
    Gives Try.prog 37 [.slice A n c, .slice A2 n2 c2] [] w (X := Unit) (fun _ => .bool (decide (l = l2))) (fun _ => True) (fun _ => []) := by
  refine gives_S Try.func37 rfl Try.ntmps37 Try.results37 (by simp) (St.enter w) (fun B hB => ?_)
  obtain ⟨r, hr⟩ : ∃ r, decide (l = l2) = r := ⟨_, rfl⟩
  rw [hr] at hB
  have hsc : scmp .eql (bl ⟨l.toArray⟩) (bl ⟨l2.toArray⟩) = some r := by rw [← hr]; simp [scmp, bl]; first | done | exact decide_eq_decide.2 Iff.rfl | rfl | congr
  focus (refine S_seq rfl ?_; refine S_region rfl rfl ?_; refine R_p rfl ?_ rfl rfl; refine R_nil ?_; refine S_seq rfl ?_; refine S_region rfl rfl ?_; refine R_p rfl ?_ rfl rfl; refine R_take (T_b2s rfl rfl rfl rfl rfl rfl rfl (Src.old h (fun k _ => noOwns k))) ?_ rfl rfl; refine R_p rfl ?_ rfl rfl; refine R_take (T_b2s rfl rfl rfl rfl rfl rfl rfl (Src.old h2 (fun k _ => noOwns k))) ?_ rfl rfl; refine R_take (T_scmp (r := ⟨l.toArray⟩) (s := ⟨l2.toArray⟩) rfl rfl hsc) ?_ rfl rfl; refine R_p rfl ?_ rfl rfl; refine R_nil ?_)
  exact hB _ _ _ _ _ rfl rfl fun w' hS => ⟨(), rfl, trivial, hS.sublist (List.nil_sublist _)⟩
set_option maxRecDepth 100000 in
set_option maxHeartbeats 4000000 in
theorem like_any (w : World) (m m2 : Em) (h : BsM w m) (h2 : BsM w m2) :
    Gives Try.prog 52 [.agg (emc m).toArray, .agg (emc m2).toArray] [] w (X := Unit) (fun _ => .bool (decide (emv m = emv m2))) (fun _ => True) (fun _ => []) := by
  refine gives_S Try.func52 rfl Try.ntmps52 Try.results52 (by simp) (St.enter w) (fun B hB => ?_)
  obtain ⟨t, k, A, c, l⟩ := m
  obtain ⟨t2, k2, A2, c2', l2⟩ := m2
  have h : Bs w All A l.length c l := h
  have h2 : Bs w All A2 l2.length c2' l2 := h2
  obtain ⟨r, hr⟩ : ∃ r, decide (l = l2) = r := ⟨_, rfl⟩
  have he : decide (emv (t, k, A, c, l) = emv (t2, k2, A2, c2', l2)) = (decide (t = t2) && (decide (k = k2) && r)) := by
    rw [← hr]
    show decide (((t, k, l) : En) = (t2, k2, l2)) = _
    rw [Bool.eq_iff_iff]
    simp
  rw [he] at hB
  by_cases h1 : t = t2
  · by_cases h3 : k = k2
    · rw [decide_eq_true h1, decide_eq_true h3, Bool.true_and, Bool.true_and] at hB
      focus (refine S_seq rfl ?_; refine S_region rfl rfl ?_; (refine R_eff (E_boxa (cs := [.int .u64 (t : Int), .int .i64 k, .slice A l.length c]) rfl) ?_ rfl rfl; rintro _ _ ⟨b2, rfl, rfl⟩); (refine R_eff (E_boxa (cs := [.int .u64 (t2 : Int), .int .i64 k2, .slice A2 l2.length c2']) rfl) ?_ rfl rfl; rintro _ _ ⟨b3, rfl, rfl⟩); refine R_p rfl ?_ rfl rfl; refine R_nil ?_; refine S_seq rfl ?_; refine S_region rfl rfl ?_; refine R_p rfl ?_ rfl rfl; refine R_take (T_load rfl rfl rfl rfl) ?_ rfl rfl; refine R_p rfl ?_ rfl rfl; refine R_take (T_load rfl rfl rfl rfl) ?_ rfl rfl; refine R_take (T_decT rfl (by omega)) ?_ rfl rfl; refine R_p rfl ?_ rfl rfl; refine R_p rfl ?_ rfl rfl; refine R_take (T_load rfl rfl rfl rfl) ?_ rfl rfl; refine R_p rfl ?_ rfl rfl; refine R_take (T_load rfl rfl rfl rfl) ?_ rfl rfl; refine R_take (T_decT rfl (by omega)) ?_ rfl rfl; refine R_p rfl ?_ rfl rfl; refine R_p rfl ?_ rfl rfl; refine R_p rfl ?_ rfl rfl; refine R_take (T_load rfl rfl rfl rfl) ?_ rfl rfl; refine R_p rfl ?_ rfl rfl; refine R_take (T_load rfl rfl rfl rfl) ?_ rfl rfl; ((refine R_eff (E_hv0 (f := 37) ⟨_, Try.func37, rfl, by kernel_rfl⟩ (fun w hS => beq_any w A A2 l.length c l2.length c2' l l2 ((Src.old h (fun k _ => noOwns k)).bs w hS) ((Src.old h2 (fun k _ => noOwns k)).bs w hS)) rfl rfl (fun _ => rfl)) ?_ rfl rfl; rintro _ _ ⟨_, rfl, _, rfl⟩); rw [hr]); refine R_p rfl ?_ rfl rfl; refine R_p rfl ?_ rfl rfl; refine R_nil ?_)
      exact hB _ _ _ _ _ rfl rfl fun w' hS => ⟨(), rfl, trivial, hS.sublist (List.nil_sublist _)⟩
    · rw [decide_eq_false h3, Bool.false_and, Bool.and_false] at hB
      focus (refine S_seq rfl ?_; refine S_region rfl rfl ?_; (refine R_eff (E_boxa (cs := [.int .u64 (t : Int), .int .i64 k, .slice A l.length c]) rfl) ?_ rfl rfl; rintro _ _ ⟨b2, rfl, rfl⟩); (refine R_eff (E_boxa (cs := [.int .u64 (t2 : Int), .int .i64 k2, .slice A2 l2.length c2']) rfl) ?_ rfl rfl; rintro _ _ ⟨b3, rfl, rfl⟩); refine R_p rfl ?_ rfl rfl; refine R_nil ?_; refine S_seq rfl ?_; refine S_region rfl rfl ?_; refine R_p rfl ?_ rfl rfl; refine R_take (T_load rfl rfl rfl rfl) ?_ rfl rfl; refine R_p rfl ?_ rfl rfl; refine R_take (T_load rfl rfl rfl rfl) ?_ rfl rfl; refine R_take (T_decT rfl (by omega)) ?_ rfl rfl; refine R_p rfl ?_ rfl rfl; refine R_p rfl ?_ rfl rfl; refine R_take (T_load rfl rfl rfl rfl) ?_ rfl rfl; refine R_p rfl ?_ rfl rfl; refine R_take (T_load rfl rfl rfl rfl) ?_ rfl rfl; refine R_take (T_decF rfl (by omega)) ?_ rfl rfl; refine R_p rfl ?_ rfl rfl; refine R_p rfl ?_ rfl rfl; refine R_skip ?_ rfl rfl; refine R_skip ?_ rfl rfl; refine R_skip ?_ rfl rfl; refine R_skip ?_ rfl rfl; refine R_skip ?_ rfl rfl; refine R_p rfl ?_ rfl rfl; refine R_p rfl ?_ rfl rfl; refine R_nil ?_)
      exact hB _ _ _ _ _ rfl rfl fun w' hS => ⟨(), rfl, trivial, hS.sublist (List.nil_sublist _)⟩
  · rw [decide_eq_false h1, Bool.false_and] at hB
    focus (refine S_seq rfl ?_; refine S_region rfl rfl ?_; (refine R_eff (E_boxa (cs := [.int .u64 (t : Int), .int .i64 k, .slice A l.length c]) rfl) ?_ rfl rfl; rintro _ _ ⟨b2, rfl, rfl⟩); (refine R_eff (E_boxa (cs := [.int .u64 (t2 : Int), .int .i64 k2, .slice A2 l2.length c2']) rfl) ?_ rfl rfl; rintro _ _ ⟨b3, rfl, rfl⟩); refine R_p rfl ?_ rfl rfl; refine R_nil ?_; refine S_seq rfl ?_; refine S_region rfl rfl ?_; refine R_p rfl ?_ rfl rfl; refine R_take (T_load rfl rfl rfl rfl) ?_ rfl rfl; refine R_p rfl ?_ rfl rfl; refine R_take (T_load rfl rfl rfl rfl) ?_ rfl rfl; refine R_take (T_decF rfl (by omega)) ?_ rfl rfl; refine R_p rfl ?_ rfl rfl; refine R_skip ?_ rfl rfl; refine R_skip ?_ rfl rfl; refine R_skip ?_ rfl rfl; refine R_skip ?_ rfl rfl; refine R_skip ?_ rfl rfl; refine R_p rfl ?_ rfl rfl; refine R_p rfl ?_ rfl rfl; refine R_skip ?_ rfl rfl; refine R_skip ?_ rfl rfl; refine R_skip ?_ rfl rfl; refine R_skip ?_ rfl rfl; refine R_skip ?_ rfl rfl; refine R_p rfl ?_ rfl rfl; refine R_p rfl ?_ rfl rfl; refine R_nil ?_)
    exact hB _ _ _ _ _ rfl rfl fun w' hS => ⟨(), rfl, trivial, hS.sublist (List.nil_sublist _)⟩
theorem eq_uptoE {L M : List En} (hl : L.length = M.length) (h : ∀ i, i < L.length → L.getD i default = M.getD i default) : L = M := by
  refine List.ext_getElem hl fun i h1 h2 => ?_
  have := h i h1
  simpa [List.getD, h1, h2] using this
set_option maxRecDepth 100000 in
set_option maxHeartbeats 4000000 in
theorem eqfE_any (w : World) (A A2 : Option Addr) (c c2' : Nat) (Q M : List Em) (h : Rd w All 3 A Q.length (cellsL emc Q)) (h2 : Rd w All 3 A2 M.length (cellsL emc M)) (hq : ∀ m ∈ Q, BsM w m) (hm : ∀ m ∈ M, BsM w m) (hn : Q.length ≤ 100000) (hn2 : M.length ≤ 100000) :
    Gives Try.prog 53 [.slice A Q.length c, .slice A2 M.length c2', .func (.func 52) #[] #[]] [] w (X := Unit) (fun _ => .bool (decide (Q.map emv = M.map emv))) (fun _ => True) (fun _ => []) := by
  refine gives_S Try.func53 rfl Try.ntmps53 Try.results53 (by simp) (St.enter w) (fun B hB => ?_)
  have hne : 0 < Q.length → A ≠ none := fun h0 => by obtain ⟨ad, rfl, _⟩ := h.2 (by omega); simp
  have hne2 : 0 < M.length → A2 ≠ none := fun h0 => by obtain ⟨ad, rfl, _⟩ := h2.2 (by omega); simp
  by_cases hlm : Q.length = M.length
  · skip
    focus (refine S_seq rfl ?_; refine S_region rfl rfl ?_; refine R_p rfl ?_ rfl rfl; refine R_nil ?_; refine S_seq rfl ?_; refine S_seq rfl ?_; refine S_region rfl rfl ?_; refine R_p rfl ?_ rfl rfl; refine R_p rfl ?_ rfl rfl; refine R_p rfl ?_ rfl rfl; refine R_p rfl ?_ rfl rfl; refine R_take (T_decF rfl (by omega)) ?_ rfl rfl; refine R_nil ?_; refine S_false rfl rfl ?_; refine S_skip rfl ?_; refine S_seq rfl ?_; refine S_seq rfl ?_; refine S_region rfl rfl ?_; refine R_p rfl ?_ rfl rfl; refine R_p rfl ?_ rfl rfl; refine R_p rfl ?_ rfl rfl; refine R_nil ?_; refine S_block rfl ?_)
    refine S_loop (X := Nat) (fun j => [(1, .slice A2 M.length c2'), (2, .func (.func 52) #[] #[]), (15, .slice A Q.length c), (16, .int .i64 (Q.length : Int)), (17, .int .i64 (j : Int))]) (fun _ => []) (fun j => j ≤ Q.length ∧ ∀ i, i < j → (Q.map emv).getD i default = (M.map emv).getD i default) (fun j => Q.length - j) rfl 0 ⟨Nat.zero_le _, fun i hi => by omega⟩ (Sub.cons rfl (Sub.cons rfl (Sub.cons rfl (Sub.cons rfl (Sub.cons rfl Sub.nil))))) (fun _ h => h) ?_
    rintro j ⟨hj, hok⟩ J hJ
    rcases Nat.lt_or_ge j Q.length with hjl | hjl
    · have hne := hne (by omega)
      have hne2 := hne2 (by omega)
      have hjm : j < M.length := by omega
      have hat := cellsL_at (f := emc) emc_len Q default j hjl
      have hat2 := cellsL_at (f := emc) emc_len M default j hjm
      have eq1 : (Q.map emv).getD j default = emv (Q.getD j default) := by simp [List.getD, hjl]
      have eq2 : (M.map emv).getD j default = emv (M.getD j default) := by simp [List.getD, hjm]
      have hb1 := hq (Q.getD j default) (by simp [List.getD, hjl])
      have hb2 := hm (M.getD j default) (by simp [List.getD, hjm])
      have hnx : emv (Q.getD j default) = emv (M.getD j default) → ∀ i, i < j + 1 → (Q.map emv).getD i default = (M.map emv).getD i default := fun e i hi => by
        rcases Nat.lt_or_ge i j with h3 | h3
        · exact hok i h3
        · rw [show i = j by omega, eq1, eq2]; exact e
      have hne3 : emv (Q.getD j default) ≠ emv (M.getD j default) → ¬ Q.map emv = M.map emv := fun e e2 => e (by rw [← eq1, ← eq2, e2])
      obtain ⟨x, hx⟩ : ∃ x, Q.getD j default = x := ⟨_, rfl⟩
      obtain ⟨y, hy⟩ : ∃ y, M.getD j default = y := ⟨_, rfl⟩
      rw [hx] at hat hnx hne3 hb1
      rw [hy] at hat2 hnx hne3 hb2
      obtain ⟨r, hr⟩ : ∃ r, decide (emv x = emv y) = r := ⟨_, rfl⟩
      cases r
      · rw [decide_eq_false (hne3 (of_decide_eq_false hr))] at hB
        focus (refine S_seq rfl ?_; refine S_region rfl rfl ?_; refine R_take (T_decT rfl (by omega)) ?_ rfl rfl; refine R_nil ?_; refine S_seq rfl ?_; refine S_true rfl rfl ?_; refine S_skip rfl ?_; refine S_seq rfl ?_; refine S_block rfl ?_; refine S_seq rfl ?_; refine S_region rfl rfl ?_; refine R_p rfl ?_ rfl rfl; refine R_take (T_ixM (sz := 3) rfl rfl rfl rfl rfl rfl hne hjl) ?_ rfl rfl; refine R_take (T_lda (ds := emc x) rfl rfl rfl (Srd.old h (fun k _ => noOwns k)) rfl (by omega) hat) ?_ rfl rfl; (refine R_eff (E_alloca rfl em_zero) ?_ rfl rfl; rintro _ _ ⟨b8, rfl, rfl⟩); refine R_p rfl ?_ rfl rfl; (refine R_eff0 (E_storew (cs := emc (0, 0, none, 0, [])) (ds := emc x) rfl rfl rfl rfl (emc_one _) rfl) ?_ rfl; rintro _ _ rfl); refine R_nil ?_; refine S_seq rfl ?_; refine S_region rfl rfl ?_; refine R_p rfl ?_ rfl rfl; refine R_p rfl ?_ rfl rfl; refine R_take (T_ixM (sz := 3) rfl rfl rfl rfl rfl rfl hne2 hjm) ?_ rfl rfl; refine R_take (T_lda (ds := emc y) rfl rfl rfl (Srd.old h2 (fun k _ => noOwns k)) rfl (by omega) hat2) ?_ rfl rfl; (refine R_eff (E_alloca rfl em_zero) ?_ rfl rfl; rintro _ _ ⟨b8, rfl, rfl⟩); (refine R_eff0 (E_storew (cs := emc (0, 0, none, 0, [])) (ds := emc y) rfl rfl rfl rfl (emc_one _) rfl) ?_ rfl; rintro _ _ rfl); refine R_nil ?_; refine S_seq rfl ?_; refine S_region rfl rfl ?_; refine R_p rfl ?_ rfl rfl; refine R_take (T_loads (ds := emc x) rfl rfl rfl rfl rfl) ?_ rfl rfl; refine R_take (T_loads (ds := emc y) rfl rfl rfl rfl rfl) ?_ rfl rfl; (refine R_eff (E_cloA (cap := []) rfl (E_hv0 (f := 52) ⟨_, Try.func52, rfl, by kernel_rfl⟩ (fun w hS => like_any w x y ((Src.old hb1 (fun k _ => noOwns k)).bs w hS) ((Src.old hb2 (fun k _ => noOwns k)).bs w hS)) rfl rfl (fun _ => rfl))) ?_ rfl rfl; rintro _ _ ⟨_, rfl, _, rfl⟩; rw [hr]); refine R_take (T_not rfl) ?_ rfl rfl; refine R_nil ?_; refine S_true rfl rfl ?_; refine S_seq rfl ?_; refine S_region rfl rfl ?_; refine R_p rfl ?_ rfl rfl; refine R_nil ?_)
        exact hB _ _ _ _ _ rfl rfl fun w' hS => ⟨(), rfl, trivial, hS.sublist (List.nil_sublist _)⟩
      · focus (refine S_seq rfl ?_; refine S_region rfl rfl ?_; refine R_take (T_decT rfl (by omega)) ?_ rfl rfl; refine R_nil ?_; refine S_seq rfl ?_; refine S_true rfl rfl ?_; refine S_skip rfl ?_; refine S_seq rfl ?_; refine S_block rfl ?_; refine S_seq rfl ?_; refine S_region rfl rfl ?_; refine R_p rfl ?_ rfl rfl; refine R_take (T_ixM (sz := 3) rfl rfl rfl rfl rfl rfl hne hjl) ?_ rfl rfl; refine R_take (T_lda (ds := emc x) rfl rfl rfl (Srd.old h (fun k _ => noOwns k)) rfl (by omega) hat) ?_ rfl rfl; (refine R_eff (E_alloca rfl em_zero) ?_ rfl rfl; rintro _ _ ⟨b8, rfl, rfl⟩); refine R_p rfl ?_ rfl rfl; (refine R_eff0 (E_storew (cs := emc (0, 0, none, 0, [])) (ds := emc x) rfl rfl rfl rfl (emc_one _) rfl) ?_ rfl; rintro _ _ rfl); refine R_nil ?_; refine S_seq rfl ?_; refine S_region rfl rfl ?_; refine R_p rfl ?_ rfl rfl; refine R_p rfl ?_ rfl rfl; refine R_take (T_ixM (sz := 3) rfl rfl rfl rfl rfl rfl hne2 hjm) ?_ rfl rfl; refine R_take (T_lda (ds := emc y) rfl rfl rfl (Srd.old h2 (fun k _ => noOwns k)) rfl (by omega) hat2) ?_ rfl rfl; (refine R_eff (E_alloca rfl em_zero) ?_ rfl rfl; rintro _ _ ⟨b8, rfl, rfl⟩); (refine R_eff0 (E_storew (cs := emc (0, 0, none, 0, [])) (ds := emc y) rfl rfl rfl rfl (emc_one _) rfl) ?_ rfl; rintro _ _ rfl); refine R_nil ?_; refine S_seq rfl ?_; refine S_region rfl rfl ?_; refine R_p rfl ?_ rfl rfl; refine R_take (T_loads (ds := emc x) rfl rfl rfl rfl rfl) ?_ rfl rfl; refine R_take (T_loads (ds := emc y) rfl rfl rfl rfl rfl) ?_ rfl rfl; (refine R_eff (E_cloA (cap := []) rfl (E_hv0 (f := 52) ⟨_, Try.func52, rfl, by kernel_rfl⟩ (fun w hS => like_any w x y ((Src.old hb1 (fun k _ => noOwns k)).bs w hS) ((Src.old hb2 (fun k _ => noOwns k)).bs w hS)) rfl rfl (fun _ => rfl))) ?_ rfl rfl; rintro _ _ ⟨_, rfl, _, rfl⟩; rw [hr]); refine R_take (T_not rfl) ?_ rfl rfl; refine R_nil ?_; refine S_false rfl rfl ?_; refine S_skip rfl ?_; refine RS_blk ?_; refine S_region rfl rfl ?_; refine R_take (T_addN rfl rfl (by unfold fits; omega)) ?_ rfl rfl; refine R_p rfl ?_ rfl rfl; refine R_nil ?_)
        exact hJ (j + 1) _ _ ⟨by omega, hnx (of_decide_eq_true hr)⟩ (Sub.cons rfl (Sub.cons rfl (Sub.cons rfl (Sub.cons rfl (Sub.cons rfl Sub.nil))))) (fun _ h => h.sublist (List.nil_sublist _)) (by omega)
    have hjn : j = Q.length := by omega
    subst hjn
    rw [decide_eq_true (eq_uptoE (by simpa using hlm) (fun i hi => hok i (by simpa using hi)))] at hB
    focus (refine S_seq rfl ?_; refine S_region rfl rfl ?_; refine R_take (T_decF rfl (by omega)) ?_ rfl rfl; refine R_nil ?_; refine S_seq rfl ?_; refine S_false rfl rfl ?_; refine S_exit rfl rfl ?_; refine S_seq rfl ?_; refine S_region rfl rfl ?_; refine R_p rfl ?_ rfl rfl; refine R_nil ?_)
    exact hB _ _ _ _ _ rfl rfl fun w' hS => ⟨(), rfl, trivial, hS.sublist (List.nil_sublist _)⟩
  · rw [decide_eq_false (fun e => hlm (by simpa using congrArg List.length e))] at hB
    focus (refine S_seq rfl ?_; refine S_region rfl rfl ?_; refine R_p rfl ?_ rfl rfl; refine R_nil ?_; refine S_seq rfl ?_; refine S_seq rfl ?_; refine S_region rfl rfl ?_; refine R_p rfl ?_ rfl rfl; refine R_p rfl ?_ rfl rfl; refine R_p rfl ?_ rfl rfl; refine R_p rfl ?_ rfl rfl; refine R_take (T_decT rfl (by omega)) ?_ rfl rfl; refine R_nil ?_; refine S_true rfl rfl ?_; refine S_seq rfl ?_; refine S_region rfl rfl ?_; refine R_p rfl ?_ rfl rfl; refine R_nil ?_)
    exact hB _ _ _ _ _ rfl rfl fun w' hS => ⟨(), rfl, trivial, hS.sublist (List.nil_sublist _)⟩
set_option maxRecDepth 100000 in
set_option maxHeartbeats 4000000 in
theorem same_any (w : World) (a b : At) (A A2 : Option Addr) (c c2' : Nat) (Q M : List Em) (h : Rd w All 3 A Q.length (cellsL emc Q)) (h2 : Rd w All 3 A2 M.length (cellsL emc M)) (hq : ∀ m ∈ Q, BsM w m) (hm : ∀ m ∈ M, BsM w m) (hn : Q.length ≤ 100000) (hn2 : M.length ≤ 100000) :
    Gives Try.prog 28 [.agg (lgc a A Q.length c).toArray, .agg (lgc b A2 M.length c2').toArray] [] w (X := Unit) (fun _ => .bool (decide (a = b) && decide (Q.map emv = M.map emv))) (fun _ => True) (fun _ => []) := by
  refine gives_S Try.func28 rfl Try.ntmps28 Try.results28 (by simp) (St.enter w) (fun B hB => ?_)
  obtain ⟨i, t⟩ := a
  obtain ⟨i2, t2⟩ := b
  obtain ⟨r, hr⟩ : ∃ r, decide ((i, t) = (i2, t2)) = r := ⟨_, rfl⟩
  obtain ⟨q, hq2⟩ : ∃ r, decide (Q.map emv = M.map emv) = r := ⟨_, rfl⟩
  rw [hr, hq2] at hB
  cases r
  · rw [Bool.false_and] at hB
    focus (refine S_seq rfl ?_; refine S_region rfl rfl ?_; (refine R_eff (E_boxa (cs := lgc (i, t) A Q.length c) rfl) ?_ rfl rfl; rintro _ _ ⟨b2, rfl, rfl⟩); (refine R_eff (E_boxa (cs := lgc (i2, t2) A2 M.length c2') rfl) ?_ rfl rfl; rintro _ _ ⟨b3, rfl, rfl⟩); refine R_p rfl ?_ rfl rfl; refine R_nil ?_; refine S_seq rfl ?_; refine S_region rfl rfl ?_; refine R_p rfl ?_ rfl rfl; refine R_nil ?_; refine S_seq rfl ?_; refine S_region rfl rfl ?_; refine R_p rfl ?_ rfl rfl; refine R_take (T_loads (ds := atc (i, t)) rfl rfl rfl rfl rfl) ?_ rfl rfl; refine R_p rfl ?_ rfl rfl; refine R_take (T_loads (ds := atc (i2, t2)) rfl rfl rfl rfl rfl) ?_ rfl rfl; refine R_take (T_eqAt (a := (i, t)) (b := (i2, t2)) rfl rfl hr) ?_ rfl rfl; refine R_p rfl ?_ rfl rfl; refine R_skip ?_ rfl rfl; refine R_skip ?_ rfl rfl; refine R_skip ?_ rfl rfl; refine R_skip ?_ rfl rfl; refine R_skip ?_ rfl rfl; refine R_skip ?_ rfl rfl; refine R_p rfl ?_ rfl rfl; refine R_p rfl ?_ rfl rfl; refine R_nil ?_)
    exact hB _ _ _ _ _ rfl rfl fun w' hS => ⟨(), rfl, trivial, hS.sublist (List.nil_sublist _)⟩
  · rw [Bool.true_and] at hB
    focus (refine S_seq rfl ?_; refine S_region rfl rfl ?_; (refine R_eff (E_boxa (cs := lgc (i, t) A Q.length c) rfl) ?_ rfl rfl; rintro _ _ ⟨b2, rfl, rfl⟩); (refine R_eff (E_boxa (cs := lgc (i2, t2) A2 M.length c2') rfl) ?_ rfl rfl; rintro _ _ ⟨b3, rfl, rfl⟩); refine R_p rfl ?_ rfl rfl; refine R_nil ?_; refine S_seq rfl ?_; refine S_region rfl rfl ?_; refine R_p rfl ?_ rfl rfl; refine R_nil ?_; refine S_seq rfl ?_; refine S_region rfl rfl ?_; refine R_p rfl ?_ rfl rfl; refine R_take (T_loads (ds := atc (i, t)) rfl rfl rfl rfl rfl) ?_ rfl rfl; refine R_p rfl ?_ rfl rfl; refine R_take (T_loads (ds := atc (i2, t2)) rfl rfl rfl rfl rfl) ?_ rfl rfl; refine R_take (T_eqAt (a := (i, t)) (b := (i2, t2)) rfl rfl hr) ?_ rfl rfl; refine R_p rfl ?_ rfl rfl; refine R_p rfl ?_ rfl rfl; refine R_take (T_load rfl rfl rfl rfl) ?_ rfl rfl; refine R_p rfl ?_ rfl rfl; refine R_take (T_load rfl rfl rfl rfl) ?_ rfl rfl; refine R_p rfl ?_ rfl rfl; ((refine R_eff (E_hv0 (f := 53) ⟨_, Try.func53, rfl, by kernel_rfl⟩ (fun w hS => eqfE_any w A A2 c c2' Q M ((Srd.old h (fun k _ => noOwns k)).rd w hS) ((Srd.old h2 (fun k _ => noOwns k)).rd w hS) (fun m hm2 => (Src.old (hq m hm2) (fun k _ => noOwns k)).bs w hS) (fun m hm2 => (Src.old (hm m hm2) (fun k _ => noOwns k)).bs w hS) hn hn2) rfl rfl (fun _ => rfl)) ?_ rfl rfl; rintro _ _ ⟨_, rfl, _, rfl⟩); rw [hq2]); refine R_p rfl ?_ rfl rfl; refine R_p rfl ?_ rfl rfl; refine R_nil ?_)
    exact hB _ _ _ _ _ rfl rfl fun w' hS => ⟨(), rfl, trivial, hS.sublist (List.nil_sublist _)⟩
end Go.Proofs.Ytkdpfnaaopimoaa
