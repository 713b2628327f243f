/- Nets: Same; the document's Same; none, large. -/
import Derived.Test.YtclmaoagdkhboaaNt3
namespace Go.Proofs.Ytclmaoagdkhboaa
open Go.RowKit
open Asn (pt row rb)
set_option linter.unusedVariables false
set_option linter.unusedSimpArgs false
--@use N

theorem eq_upto {α : Type} [Inhabited α] {L M : List α} (hl : L.length = M.length) (h : ∀ i, i < L.length → L.getD i default = M.getD i default) : L = M := by
  refine List.ext_getElem hl fun i h1 h2 => ?_
  have := h i h1
  simpa [List.getD, h1, h2] using this
def BsP (w : World) (m : Pk) : Prop := Bs w All m.2.2.1 m.2.2.2.2.length m.2.2.2.1 m.2.2.2.2
set_option maxRecDepth 100000 in
set_option maxHeartbeats 4000000 in
theorem beq_any (w : World) (A A2 : Option Addr) (n c n2 c2 : Nat) (l l2 : List UInt8) (h : Bs w All A n c l) (h2 : Bs w All A2 n2 c2 l2) :
    Gives Try.prog 49 [.slice A n c, .slice A2 n2 c2] [] w (X := Unit) (fun _ => .bool (decide (l = l2))) (fun _ => True) (fun _ => []) := by
  refine gives_S Try.func49 rfl Try.ntmps49 Try.results49 (by simp) (St.enter w) (fun B hB => ?_)
  obtain ⟨r, hr⟩ : ∃ r, decide (l = l2) = r := ⟨_, rfl⟩
  rw [hr] at hB
  have hsc : scmp .eql (bl ⟨l.toArray⟩) (bl ⟨l2.toArray⟩) = some r := by rw [← hr]; simp [scmp, bl]; first | done | exact decide_eq_decide.2 Iff.rfl | rfl | congr
  focus (refine S_seq rfl ?_; refine S_region rfl rfl ?_; refine R_p rfl ?_ rfl rfl; refine R_nil ?_; refine S_seq rfl ?_; refine S_region rfl rfl ?_; refine R_p rfl ?_ rfl rfl; refine R_take (T_b2s rfl rfl rfl rfl rfl rfl rfl (Src.old h (fun k _ => noOwns k))) ?_ rfl rfl; refine R_p rfl ?_ rfl rfl; refine R_take (T_b2s rfl rfl rfl rfl rfl rfl rfl (Src.old h2 (fun k _ => noOwns k))) ?_ rfl rfl; refine R_take (T_scmp (r := ⟨l.toArray⟩) (s := ⟨l2.toArray⟩) rfl rfl hsc) ?_ rfl rfl; refine R_p rfl ?_ rfl rfl; refine R_nil ?_)
  exact hB _ _ _ _ _ rfl rfl fun w' hS => ⟨(), rfl, trivial, hS.sublist (List.nil_sublist _)⟩
set_option maxRecDepth 100000 in
set_option maxHeartbeats 4000000 in
theorem like_any (w : World) (m m2 : Pk) (h : BsP w m) (h2 : BsP w m2) :
    Gives Try.prog 48 [.agg (pkc m).toArray, .agg (pkc m2).toArray] [] w (X := Unit) (fun _ => .bool (decide (pkv m = pkv m2))) (fun _ => True) (fun _ => []) := by
  refine gives_S Try.func48 rfl Try.ntmps48 Try.results48 (by simp) (St.enter w) (fun B hB => ?_)
  obtain ⟨t, k, A, c, l⟩ := m
  obtain ⟨t2, k2, A2, c2', l2⟩ := m2
  have h : Bs w All A l.length c l := h
  have h2 : Bs w All A2 l2.length c2' l2 := h2
  obtain ⟨r, hr⟩ : ∃ r, decide (l = l2) = r := ⟨_, rfl⟩
  have he : decide (pkv (t, k, A, c, l) = pkv (t2, k2, A2, c2', l2)) = (decide (t = t2) && (decide (k = k2) && r)) := by
    rw [← hr]
    show decide (((t, k, l) : Pn) = (t2, k2, l2)) = _
    rw [Bool.eq_iff_iff]
    simp
  rw [he] at hB
  by_cases h1 : t = t2
  · by_cases h3 : k = k2
    · rw [decide_eq_true h1, decide_eq_true h3, Bool.true_and, Bool.true_and] at hB
      focus (refine S_seq rfl ?_; refine S_region rfl rfl ?_; (refine R_eff (E_boxa (cs := [.int .i64 t, .int .i64 k, .slice A l.length c]) rfl) ?_ rfl rfl; rintro _ _ ⟨b2, rfl, rfl⟩); (refine R_eff (E_boxa (cs := [.int .i64 t2, .int .i64 k2, .slice A2 l2.length c2']) rfl) ?_ rfl rfl; rintro _ _ ⟨b3, rfl, rfl⟩); refine R_p rfl ?_ rfl rfl; refine R_nil ?_; refine S_seq rfl ?_; refine S_region rfl rfl ?_; refine R_p rfl ?_ rfl rfl; refine R_take (T_load rfl rfl rfl rfl) ?_ rfl rfl; refine R_p rfl ?_ rfl rfl; refine R_take (T_load rfl rfl rfl rfl) ?_ rfl rfl; refine R_take (T_decT rfl (by omega)) ?_ rfl rfl; refine R_p rfl ?_ rfl rfl; refine R_p rfl ?_ rfl rfl; refine R_take (T_load rfl rfl rfl rfl) ?_ rfl rfl; refine R_p rfl ?_ rfl rfl; refine R_take (T_load rfl rfl rfl rfl) ?_ rfl rfl; refine R_take (T_decT rfl (by omega)) ?_ rfl rfl; refine R_p rfl ?_ rfl rfl; refine R_p rfl ?_ rfl rfl; refine R_p rfl ?_ rfl rfl; refine R_take (T_load rfl rfl rfl rfl) ?_ rfl rfl; refine R_p rfl ?_ rfl rfl; refine R_take (T_load rfl rfl rfl rfl) ?_ rfl rfl; ((refine R_eff (E_hv0 (f := 49) ⟨_, Try.func49, rfl, by kernel_rfl⟩ (fun w hS => beq_any w A A2 l.length c l2.length c2' l l2 ((Src.old h (fun k _ => noOwns k)).bs w hS) ((Src.old h2 (fun k _ => noOwns k)).bs w hS)) rfl rfl (fun _ => rfl)) ?_ rfl rfl; rintro _ _ ⟨_, rfl, _, rfl⟩); rw [hr]); refine R_p rfl ?_ rfl rfl; refine R_p rfl ?_ rfl rfl; refine R_nil ?_)
      exact hB _ _ _ _ _ rfl rfl fun w' hS => ⟨(), rfl, trivial, hS.sublist (List.nil_sublist _)⟩
    · rw [decide_eq_false h3, Bool.false_and, Bool.and_false] at hB
      focus (refine S_seq rfl ?_; refine S_region rfl rfl ?_; (refine R_eff (E_boxa (cs := [.int .i64 t, .int .i64 k, .slice A l.length c]) rfl) ?_ rfl rfl; rintro _ _ ⟨b2, rfl, rfl⟩); (refine R_eff (E_boxa (cs := [.int .i64 t2, .int .i64 k2, .slice A2 l2.length c2']) rfl) ?_ rfl rfl; rintro _ _ ⟨b3, rfl, rfl⟩); refine R_p rfl ?_ rfl rfl; refine R_nil ?_; refine S_seq rfl ?_; refine S_region rfl rfl ?_; refine R_p rfl ?_ rfl rfl; refine R_take (T_load rfl rfl rfl rfl) ?_ rfl rfl; refine R_p rfl ?_ rfl rfl; refine R_take (T_load rfl rfl rfl rfl) ?_ rfl rfl; refine R_take (T_decT rfl (by omega)) ?_ rfl rfl; refine R_p rfl ?_ rfl rfl; refine R_p rfl ?_ rfl rfl; refine R_take (T_load rfl rfl rfl rfl) ?_ rfl rfl; refine R_p rfl ?_ rfl rfl; refine R_take (T_load rfl rfl rfl rfl) ?_ rfl rfl; refine R_take (T_decF rfl (by omega)) ?_ rfl rfl; refine R_p rfl ?_ rfl rfl; refine R_p rfl ?_ rfl rfl; refine R_skip ?_ rfl rfl; refine R_skip ?_ rfl rfl; refine R_skip ?_ rfl rfl; refine R_skip ?_ rfl rfl; refine R_skip ?_ rfl rfl; refine R_p rfl ?_ rfl rfl; refine R_p rfl ?_ rfl rfl; refine R_nil ?_)
      exact hB _ _ _ _ _ rfl rfl fun w' hS => ⟨(), rfl, trivial, hS.sublist (List.nil_sublist _)⟩
  · rw [decide_eq_false h1, Bool.false_and] at hB
    focus (refine S_seq rfl ?_; refine S_region rfl rfl ?_; (refine R_eff (E_boxa (cs := [.int .i64 t, .int .i64 k, .slice A l.length c]) rfl) ?_ rfl rfl; rintro _ _ ⟨b2, rfl, rfl⟩); (refine R_eff (E_boxa (cs := [.int .i64 t2, .int .i64 k2, .slice A2 l2.length c2']) rfl) ?_ rfl rfl; rintro _ _ ⟨b3, rfl, rfl⟩); refine R_p rfl ?_ rfl rfl; refine R_nil ?_; refine S_seq rfl ?_; refine S_region rfl rfl ?_; refine R_p rfl ?_ rfl rfl; refine R_take (T_load rfl rfl rfl rfl) ?_ rfl rfl; refine R_p rfl ?_ rfl rfl; refine R_take (T_load rfl rfl rfl rfl) ?_ rfl rfl; refine R_take (T_decF rfl (by omega)) ?_ rfl rfl; refine R_p rfl ?_ rfl rfl; refine R_skip ?_ rfl rfl; refine R_skip ?_ rfl rfl; refine R_skip ?_ rfl rfl; refine R_skip ?_ rfl rfl; refine R_skip ?_ rfl rfl; refine R_p rfl ?_ rfl rfl; refine R_p rfl ?_ rfl rfl; refine R_skip ?_ rfl rfl; refine R_skip ?_ rfl rfl; refine R_skip ?_ rfl rfl; refine R_skip ?_ rfl rfl; refine R_skip ?_ rfl rfl; refine R_p rfl ?_ rfl rfl; refine R_p rfl ?_ rfl rfl; refine R_nil ?_)
    exact hB _ _ _ _ _ rfl rfl fun w' hS => ⟨(), rfl, trivial, hS.sublist (List.nil_sublist _)⟩
theorem eq_uptoP {L M : List Pn} (hl : L.length = M.length) (h : ∀ i, i < L.length → L.getD i default = M.getD i default) : L = M := by
  refine List.ext_getElem hl fun i h1 h2 => ?_
  have := h i h1
  simpa [List.getD, h1, h2] using this
set_option maxRecDepth 100000 in
set_option maxHeartbeats 4000000 in
theorem eqfP_any (w : World) (A A2 : Option Addr) (c c2' : Nat) (Q M : List Pk) (h : Rd w All 3 A Q.length (cellsL pkc Q)) (h2 : Rd w All 3 A2 M.length (cellsL pkc M)) (hq : ∀ m ∈ Q, BsP w m) (hm : ∀ m ∈ M, BsP w m) (hn : Q.length ≤ 100000) (hn2 : M.length ≤ 100000) :
    Gives Try.prog 47 [.slice A Q.length c, .slice A2 M.length c2', .func (.func 48) #[] #[]] [] w (X := Unit) (fun _ => .bool (decide (Q.map pkv = M.map pkv))) (fun _ => True) (fun _ => []) := by
  refine gives_S Try.func47 rfl Try.ntmps47 Try.results47 (by simp) (St.enter w) (fun B hB => ?_)
  have hne : 0 < Q.length → A ≠ none := fun h0 => by obtain ⟨ad, rfl, _⟩ := h.2 (by omega); simp
  have hne2 : 0 < M.length → A2 ≠ none := fun h0 => by obtain ⟨ad, rfl, _⟩ := h2.2 (by omega); simp
  by_cases hlm : Q.length = M.length
  · skip
    focus (refine S_seq rfl ?_; refine S_region rfl rfl ?_; refine R_p rfl ?_ rfl rfl; refine R_nil ?_; refine S_seq rfl ?_; refine S_seq rfl ?_; refine S_region rfl rfl ?_; refine R_p rfl ?_ rfl rfl; refine R_p rfl ?_ rfl rfl; refine R_p rfl ?_ rfl rfl; refine R_p rfl ?_ rfl rfl; refine R_take (T_decF rfl (by omega)) ?_ rfl rfl; refine R_nil ?_; refine S_false rfl rfl ?_; refine S_skip rfl ?_; refine S_seq rfl ?_; refine S_seq rfl ?_; refine S_region rfl rfl ?_; refine R_p rfl ?_ rfl rfl; refine R_p rfl ?_ rfl rfl; refine R_p rfl ?_ rfl rfl; refine R_nil ?_; refine S_block rfl ?_)
    refine S_loop (X := Nat) (fun j => [(1, .slice A2 M.length c2'), (2, .func (.func 48) #[] #[]), (15, .slice A Q.length c), (16, .int .i64 (Q.length : Int)), (17, .int .i64 (j : Int))]) (fun _ => []) (fun j => j ≤ Q.length ∧ ∀ i, i < j → (Q.map pkv).getD i default = (M.map pkv).getD i default) (fun j => Q.length - j) rfl 0 ⟨Nat.zero_le _, fun i hi => by omega⟩ (Sub.cons rfl (Sub.cons rfl (Sub.cons rfl (Sub.cons rfl (Sub.cons rfl Sub.nil))))) (fun _ h => h) ?_
    rintro j ⟨hj, hok⟩ J hJ
    rcases Nat.lt_or_ge j Q.length with hjl | hjl
    · have hne := hne (by omega)
      have hne2 := hne2 (by omega)
      have hjm : j < M.length := by omega
      have hat := cellsL_at (f := pkc) pkc_len Q default j hjl
      have hat2 := cellsL_at (f := pkc) pkc_len M default j hjm
      have eq1 : (Q.map pkv).getD j default = pkv (Q.getD j default) := by simp [List.getD, hjl]
      have eq2 : (M.map pkv).getD j default = pkv (M.getD j default) := by simp [List.getD, hjm]
      have hb1 := hq (Q.getD j default) (by simp [List.getD, hjl])
      have hb2 := hm (M.getD j default) (by simp [List.getD, hjm])
      have hnx : pkv (Q.getD j default) = pkv (M.getD j default) → ∀ i, i < j + 1 → (Q.map pkv).getD i default = (M.map pkv).getD i default := fun e i hi => by
        rcases Nat.lt_or_ge i j with h3 | h3
        · exact hok i h3
        · rw [show i = j by omega, eq1, eq2]; exact e
      have hne3 : pkv (Q.getD j default) ≠ pkv (M.getD j default) → ¬ Q.map pkv = M.map pkv := fun e e2 => e (by rw [← eq1, ← eq2, e2])
      obtain ⟨x, hx⟩ : ∃ x, Q.getD j default = x := ⟨_, rfl⟩
      obtain ⟨y, hy⟩ : ∃ y, M.getD j default = y := ⟨_, rfl⟩
      rw [hx] at hat hnx hne3 hb1
      rw [hy] at hat2 hnx hne3 hb2
      obtain ⟨r, hr⟩ : ∃ r, decide (pkv x = pkv y) = r := ⟨_, rfl⟩
      cases r
      · rw [decide_eq_false (hne3 (of_decide_eq_false hr))] at hB
        focus (refine S_seq rfl ?_; refine S_region rfl rfl ?_; refine R_take (T_decT rfl (by omega)) ?_ rfl rfl; refine R_nil ?_; refine S_seq rfl ?_; refine S_true rfl rfl ?_; refine S_skip rfl ?_; refine S_seq rfl ?_; refine S_block rfl ?_; refine S_seq rfl ?_; refine S_region rfl rfl ?_; refine R_p rfl ?_ rfl rfl; refine R_take (T_ixM (sz := 3) rfl rfl rfl rfl rfl rfl hne hjl) ?_ rfl rfl; refine R_take (T_lda (ds := pkc x) rfl rfl rfl (Srd.old h (fun k _ => noOwns k)) rfl (by omega) hat) ?_ rfl rfl; (refine R_eff (E_alloca rfl pk_zero) ?_ rfl rfl; rintro _ _ ⟨b8, rfl, rfl⟩); refine R_p rfl ?_ rfl rfl; (refine R_eff0 (E_storew (cs := pkc (0, 0, none, 0, [])) (ds := pkc x) rfl rfl rfl rfl (pkc_one _) rfl) ?_ rfl; rintro _ _ rfl); refine R_nil ?_; refine S_seq rfl ?_; refine S_region rfl rfl ?_; refine R_p rfl ?_ rfl rfl; refine R_p rfl ?_ rfl rfl; refine R_take (T_ixM (sz := 3) rfl rfl rfl rfl rfl rfl hne2 hjm) ?_ rfl rfl; refine R_take (T_lda (ds := pkc y) rfl rfl rfl (Srd.old h2 (fun k _ => noOwns k)) rfl (by omega) hat2) ?_ rfl rfl; (refine R_eff (E_alloca rfl pk_zero) ?_ rfl rfl; rintro _ _ ⟨b8, rfl, rfl⟩); (refine R_eff0 (E_storew (cs := pkc (0, 0, none, 0, [])) (ds := pkc y) rfl rfl rfl rfl (pkc_one _) rfl) ?_ rfl; rintro _ _ rfl); refine R_nil ?_; refine S_seq rfl ?_; refine S_region rfl rfl ?_; refine R_p rfl ?_ rfl rfl; refine R_take (T_loads (ds := pkc x) rfl rfl rfl rfl rfl) ?_ rfl rfl; refine R_take (T_loads (ds := pkc y) rfl rfl rfl rfl rfl) ?_ rfl rfl; (refine R_eff (E_cloA (cap := []) rfl (E_hv0 (f := 48) ⟨_, Try.func48, rfl, by kernel_rfl⟩ (fun w hS => like_any w x y ((Src.old hb1 (fun k _ => noOwns k)).bs w hS) ((Src.old hb2 (fun k _ => noOwns k)).bs w hS)) rfl rfl (fun _ => rfl))) ?_ rfl rfl; rintro _ _ ⟨_, rfl, _, rfl⟩; rw [hr]); refine R_take (T_not rfl) ?_ rfl rfl; refine R_nil ?_; refine S_true rfl rfl ?_; refine S_seq rfl ?_; refine S_region rfl rfl ?_; refine R_p rfl ?_ rfl rfl; refine R_nil ?_)
        exact hB _ _ _ _ _ rfl rfl fun w' hS => ⟨(), rfl, trivial, hS.sublist (List.nil_sublist _)⟩
      · focus (refine S_seq rfl ?_; refine S_region rfl rfl ?_; refine R_take (T_decT rfl (by omega)) ?_ rfl rfl; refine R_nil ?_; refine S_seq rfl ?_; refine S_true rfl rfl ?_; refine S_skip rfl ?_; refine S_seq rfl ?_; refine S_block rfl ?_; refine S_seq rfl ?_; refine S_region rfl rfl ?_; refine R_p rfl ?_ rfl rfl; refine R_take (T_ixM (sz := 3) rfl rfl rfl rfl rfl rfl hne hjl) ?_ rfl rfl; refine R_take (T_lda (ds := pkc x) rfl rfl rfl (Srd.old h (fun k _ => noOwns k)) rfl (by omega) hat) ?_ rfl rfl; (refine R_eff (E_alloca rfl pk_zero) ?_ rfl rfl; rintro _ _ ⟨b8, rfl, rfl⟩); refine R_p rfl ?_ rfl rfl; (refine R_eff0 (E_storew (cs := pkc (0, 0, none, 0, [])) (ds := pkc x) rfl rfl rfl rfl (pkc_one _) rfl) ?_ rfl; rintro _ _ rfl); refine R_nil ?_; refine S_seq rfl ?_; refine S_region rfl rfl ?_; refine R_p rfl ?_ rfl rfl; refine R_p rfl ?_ rfl rfl; refine R_take (T_ixM (sz := 3) rfl rfl rfl rfl rfl rfl hne2 hjm) ?_ rfl rfl; refine R_take (T_lda (ds := pkc y) rfl rfl rfl (Srd.old h2 (fun k _ => noOwns k)) rfl (by omega) hat2) ?_ rfl rfl; (refine R_eff (E_alloca rfl pk_zero) ?_ rfl rfl; rintro _ _ ⟨b8, rfl, rfl⟩); (refine R_eff0 (E_storew (cs := pkc (0, 0, none, 0, [])) (ds := pkc y) rfl rfl rfl rfl (pkc_one _) rfl) ?_ rfl; rintro _ _ rfl); refine R_nil ?_; refine S_seq rfl ?_; refine S_region rfl rfl ?_; refine R_p rfl ?_ rfl rfl; refine R_take (T_loads (ds := pkc x) rfl rfl rfl rfl rfl) ?_ rfl rfl; refine R_take (T_loads (ds := pkc y) rfl rfl rfl rfl rfl) ?_ rfl rfl; (refine R_eff (E_cloA (cap := []) rfl (E_hv0 (f := 48) ⟨_, Try.func48, rfl, by kernel_rfl⟩ (fun w hS => like_any w x y ((Src.old hb1 (fun k _ => noOwns k)).bs w hS) ((Src.old hb2 (fun k _ => noOwns k)).bs w hS)) rfl rfl (fun _ => rfl))) ?_ rfl rfl; rintro _ _ ⟨_, rfl, _, rfl⟩; rw [hr]); refine R_take (T_not rfl) ?_ rfl rfl; refine R_nil ?_; refine S_false rfl rfl ?_; refine S_skip rfl ?_; refine RS_blk ?_; refine S_region rfl rfl ?_; refine R_take (T_addN rfl rfl (by unfold fits; omega)) ?_ rfl rfl; refine R_p rfl ?_ rfl rfl; refine R_nil ?_)
        exact hJ (j + 1) _ _ ⟨by omega, hnx (of_decide_eq_true hr)⟩ (Sub.cons rfl (Sub.cons rfl (Sub.cons rfl (Sub.cons rfl (Sub.cons rfl Sub.nil))))) (fun _ h => h.sublist (List.nil_sublist _)) (by omega)
    have hjn : j = Q.length := by omega
    subst hjn
    rw [decide_eq_true (eq_uptoP (by simpa using hlm) (fun i hi => hok i (by simpa using hi)))] at hB
    focus (refine S_seq rfl ?_; refine S_region rfl rfl ?_; refine R_take (T_decF rfl (by omega)) ?_ rfl rfl; refine R_nil ?_; refine S_seq rfl ?_; refine S_false rfl rfl ?_; refine S_exit rfl rfl ?_; refine S_seq rfl ?_; refine S_region rfl rfl ?_; refine R_p rfl ?_ rfl rfl; refine R_nil ?_)
    exact hB _ _ _ _ _ rfl rfl fun w' hS => ⟨(), rfl, trivial, hS.sublist (List.nil_sublist _)⟩
  · rw [decide_eq_false (fun e => hlm (by simpa using congrArg List.length e))] at hB
    focus (refine S_seq rfl ?_; refine S_region rfl rfl ?_; refine R_p rfl ?_ rfl rfl; refine R_nil ?_; refine S_seq rfl ?_; refine S_seq rfl ?_; refine S_region rfl rfl ?_; refine R_p rfl ?_ rfl rfl; refine R_p rfl ?_ rfl rfl; refine R_p rfl ?_ rfl rfl; refine R_p rfl ?_ rfl rfl; refine R_take (T_decT rfl (by omega)) ?_ rfl rfl; refine R_nil ?_; refine S_true rfl rfl ?_; refine S_seq rfl ?_; refine S_region rfl rfl ?_; refine R_p rfl ?_ rfl rfl; refine R_nil ?_)
    exact hB _ _ _ _ _ rfl rfl fun w' hS => ⟨(), rfl, trivial, hS.sublist (List.nil_sublist _)⟩
set_option maxRecDepth 100000 in
set_option maxHeartbeats 4000000 in
theorem equalCt_any (w : World) (A A2 : Option Addr) (n c n2 c2 : Nat) (L M : List Ct) (h : Rd w All 2 A n (cellsL ctc L)) (h2 : Rd w All 2 A2 n2 (cellsL ctc M)) (hn : n ≤ 100000) (hn2 : n2 ≤ 100000) :
    Gives Try.prog 46 [.slice A n c, .slice A2 n2 c2] [] w (X := Unit) (fun _ => .bool (decide (L = M))) (fun _ => True) (fun _ => []) := by
  refine gives_S Try.func46 rfl Try.ntmps46 Try.results46 (by simp) (St.enter w) (fun B hB => ?_)
  have hl : L.length = n := by have := h.1; rw [cellsL_len ctc_len] at this; omega
  have hl2 : M.length = n2 := by have := h2.1; rw [cellsL_len ctc_len] at this; omega
  subst hl
  subst hl2
  have hne : 0 < L.length → A ≠ none := fun h0 => by obtain ⟨ad, rfl, _⟩ := h.2 (by omega); simp
  have hne2 : 0 < M.length → A2 ≠ none := fun h0 => by obtain ⟨ad, rfl, _⟩ := h2.2 (by omega); simp
  by_cases hlm : L.length = M.length
  · skip
    focus (refine S_seq rfl ?_; refine S_region rfl rfl ?_; refine R_p rfl ?_ rfl rfl; refine R_nil ?_; refine S_seq rfl ?_; refine S_seq rfl ?_; refine S_region rfl rfl ?_; refine R_p rfl ?_ rfl rfl; refine R_p rfl ?_ rfl rfl; refine R_p rfl ?_ rfl rfl; refine R_p rfl ?_ rfl rfl; refine R_take (T_decF rfl (by omega)) ?_ rfl rfl; refine R_nil ?_; refine S_false rfl rfl ?_; refine S_skip rfl ?_; refine S_seq rfl ?_; refine S_seq rfl ?_; refine S_region rfl rfl ?_; refine R_p rfl ?_ rfl rfl; refine R_p rfl ?_ rfl rfl; refine R_p rfl ?_ rfl rfl; refine R_nil ?_; refine S_block rfl ?_)
    refine S_loop (X := Nat) (fun j => [(0, .slice A L.length c), (1, .slice A2 M.length c2), (12, .int .i64 (L.length : Int)), (13, .int .i64 (j : Int))]) (fun _ => []) (fun j => j ≤ L.length ∧ ∀ i, i < j → L.getD i default = M.getD i default) (fun j => L.length - j) rfl 0 ⟨Nat.zero_le _, fun i hi => by omega⟩ (Sub.cons rfl (Sub.cons rfl (Sub.cons rfl (Sub.cons rfl Sub.nil)))) (fun _ h => h) ?_
    rintro j ⟨hj, hok⟩ J hJ
    rcases Nat.lt_or_ge j L.length with hjl | hjl
    · have hne := hne (by omega)
      have hne2 := hne2 (by omega)
      have hjm : j < M.length := by omega
      have hat := cellsL_at (f := ctc) ctc_len L default j hjl
      have hat2 := cellsL_at (f := ctc) ctc_len M default j hjm
      have hnx : L.getD j default = M.getD j default → ∀ i, i < j + 1 → L.getD i default = M.getD i default := fun e i hi => by
        rcases Nat.lt_or_ge i j with h3 | h3
        · exact hok i h3
        · rw [show i = j by omega]; exact e
      have hne3 : L.getD j default ≠ M.getD j default → ¬ L = M := fun e e2 => e (by rw [e2])
      obtain ⟨x, hx⟩ : ∃ x, L.getD j default = x := ⟨_, rfl⟩
      obtain ⟨y, hy⟩ : ∃ y, M.getD j default = y := ⟨_, rfl⟩
      rw [hx] at hat hnx hne3
      rw [hy] at hat2 hnx hne3
      by_cases hxy : x = y
      · have hd := decide_eq_true hxy
        focus (refine S_seq rfl ?_; refine S_region rfl rfl ?_; refine R_take (T_decT rfl (by omega)) ?_ rfl rfl; refine R_nil ?_; refine S_seq rfl ?_; refine S_true rfl rfl ?_; refine S_skip rfl ?_; refine S_seq rfl ?_; refine S_block rfl ?_; refine S_seq rfl ?_; refine S_region rfl rfl ?_; refine R_p rfl ?_ rfl rfl; refine R_p rfl ?_ rfl rfl; refine R_nil ?_; refine S_seq rfl ?_; (refine S_draw _ (fun _ h => h) (by kernel_rfl) rfl (by kernel_rfl) (rfl : _ = 9) ?_; (refine D_take 0 rfl (pev_ok rfl) ?_ rfl rfl (by kernel_rfl) (by kernel_rfl)); (refine D_take 1 rfl (pev_ok rfl) ?_ rfl rfl (by kernel_rfl) (by kernel_rfl)); (refine D_take 2 rfl (T_ixM (sz := 2) rfl rfl rfl rfl rfl rfl hne hjl) ?_ rfl rfl (by kernel_rfl) (by kernel_rfl)); (refine D_take 3 rfl (T_lda (ds := ctc x) rfl rfl rfl (Srd.old h (fun k _ => noOwns k)) rfl (by omega) hat) ?_ rfl rfl (by kernel_rfl) (by kernel_rfl)); (refine D_take 4 rfl (pev_ok rfl) ?_ rfl rfl (by kernel_rfl) (by kernel_rfl)); (refine D_take 5 rfl (pev_ok rfl) ?_ rfl rfl (by kernel_rfl) (by kernel_rfl)); (refine D_take 6 rfl (T_ixM (sz := 2) rfl rfl rfl rfl rfl rfl hne2 hjm) ?_ rfl rfl (by kernel_rfl) (by kernel_rfl)); (refine D_take 7 rfl (T_lda (ds := ctc y) rfl rfl rfl (Srd.old h2 (fun k _ => noOwns k)) rfl (by omega) hat2) ?_ rfl rfl (by kernel_rfl) (by kernel_rfl)); (refine D_take 8 rfl (T_neCt (a := x) (b := y) rfl rfl hd) ?_ rfl rfl (by kernel_rfl) (by kernel_rfl)); refine D_done ?_ (by kernel_rfl)); refine S_false rfl rfl ?_; refine S_skip rfl ?_; refine RS_blk ?_; refine S_region rfl rfl ?_; refine R_take (T_addN rfl rfl (by unfold fits; omega)) ?_ rfl rfl; refine R_p rfl ?_ rfl rfl; refine R_nil ?_)
        exact hJ (j + 1) _ _ ⟨by omega, hnx hxy⟩ (Sub.cons rfl (Sub.cons rfl (Sub.cons rfl (Sub.cons rfl Sub.nil)))) (fun _ h => h) (by omega)
      · have hd := decide_eq_false hxy
        rw [decide_eq_false (hne3 hxy)] at hB
        focus (refine S_seq rfl ?_; refine S_region rfl rfl ?_; refine R_take (T_decT rfl (by omega)) ?_ rfl rfl; refine R_nil ?_; refine S_seq rfl ?_; refine S_true rfl rfl ?_; refine S_skip rfl ?_; refine S_seq rfl ?_; refine S_block rfl ?_; refine S_seq rfl ?_; refine S_region rfl rfl ?_; refine R_p rfl ?_ rfl rfl; refine R_p rfl ?_ rfl rfl; refine R_nil ?_; refine S_seq rfl ?_; (refine S_draw _ (fun _ h => h) (by kernel_rfl) rfl (by kernel_rfl) (rfl : _ = 9) ?_; (refine D_take 0 rfl (pev_ok rfl) ?_ rfl rfl (by kernel_rfl) (by kernel_rfl)); (refine D_take 1 rfl (pev_ok rfl) ?_ rfl rfl (by kernel_rfl) (by kernel_rfl)); (refine D_take 2 rfl (T_ixM (sz := 2) rfl rfl rfl rfl rfl rfl hne hjl) ?_ rfl rfl (by kernel_rfl) (by kernel_rfl)); (refine D_take 3 rfl (T_lda (ds := ctc x) rfl rfl rfl (Srd.old h (fun k _ => noOwns k)) rfl (by omega) hat) ?_ rfl rfl (by kernel_rfl) (by kernel_rfl)); (refine D_take 4 rfl (pev_ok rfl) ?_ rfl rfl (by kernel_rfl) (by kernel_rfl)); (refine D_take 5 rfl (pev_ok rfl) ?_ rfl rfl (by kernel_rfl) (by kernel_rfl)); (refine D_take 6 rfl (T_ixM (sz := 2) rfl rfl rfl rfl rfl rfl hne2 hjm) ?_ rfl rfl (by kernel_rfl) (by kernel_rfl)); (refine D_take 7 rfl (T_lda (ds := ctc y) rfl rfl rfl (Srd.old h2 (fun k _ => noOwns k)) rfl (by omega) hat2) ?_ rfl rfl (by kernel_rfl) (by kernel_rfl)); (refine D_take 8 rfl (T_neCt (a := x) (b := y) rfl rfl hd) ?_ rfl rfl (by kernel_rfl) (by kernel_rfl)); refine D_done ?_ (by kernel_rfl)); refine S_true rfl rfl ?_; refine S_seq rfl ?_; refine S_region rfl rfl ?_; refine R_p rfl ?_ rfl rfl; refine R_nil ?_)
        exact hB _ _ _ _ _ rfl rfl fun w' hS => ⟨(), rfl, trivial, hS.sublist (List.nil_sublist _)⟩
    have hjn : j = L.length := by omega
    subst hjn
    rw [decide_eq_true (eq_upto hlm hok)] at hB
    focus (refine S_seq rfl ?_; refine S_region rfl rfl ?_; refine R_take (T_decF rfl (by omega)) ?_ rfl rfl; refine R_nil ?_; refine S_seq rfl ?_; refine S_false rfl rfl ?_; refine S_exit rfl rfl ?_; refine S_seq rfl ?_; refine S_region rfl rfl ?_; refine R_p rfl ?_ rfl rfl; refine R_nil ?_)
    exact hB _ _ _ _ _ rfl rfl fun w' hS => ⟨(), rfl, trivial, hS.sublist (List.nil_sublist _)⟩
  · rw [decide_eq_false (fun e => hlm (by rw [e]))] at hB
    focus (refine S_seq rfl ?_; refine S_region rfl rfl ?_; refine R_p rfl ?_ rfl rfl; refine R_nil ?_; refine S_seq rfl ?_; refine S_seq rfl ?_; refine S_region rfl rfl ?_; refine R_p rfl ?_ rfl rfl; refine R_p rfl ?_ rfl rfl; refine R_p rfl ?_ rfl rfl; refine R_p rfl ?_ rfl rfl; refine R_take (T_decT rfl (by omega)) ?_ rfl rfl; refine R_nil ?_; refine S_true rfl rfl ?_; refine S_seq rfl ?_; refine S_region rfl rfl ?_; refine R_p rfl ?_ rfl rfl; refine R_nil ?_)
    exact hB _ _ _ _ _ rfl rfl fun w' hS => ⟨(), rfl, trivial, hS.sublist (List.nil_sublist _)⟩
set_option maxRecDepth 100000 in
set_option maxHeartbeats 4000000 in
theorem same01_k (w : World) (A1 A2 : Option Addr) (n1 c1 n2 c2' : Nat) (l1 l2 : List UInt8) (h1 : Bs w All A1 n1 c1 l1) (h2 : Bs w All A2 n2 c2' l2) :
    Gives Try.prog 41 [.slice A1 n1 c1, .slice A2 n2 c2'] [] w (X := Unit) (fun _ => .bool (decide (l1 = l2))) (fun _ => True) (fun _ => []) := by
  refine gives_S Try.func41 rfl Try.ntmps41 Try.results41 (by simp) (St.enter w) (fun B hB => ?_)
  have hc1 := h1.capm
  have hk1 := h1.cap
  have hl1 := h1.len
  have hl2 := h2.len
  unfold maxLen at hc1
  have hr1 := h1.rd
  have hr2 := h2.rd
  focus (refine S_seq rfl ?_; refine S_region rfl rfl ?_; refine R_p rfl ?_ rfl rfl; refine R_nil ?_; refine S_seq rfl ?_; refine S_region rfl rfl ?_; refine R_p rfl ?_ rfl rfl; refine R_p rfl ?_ rfl rfl; refine R_p rfl ?_ rfl rfl; refine R_p rfl ?_ rfl rfl; refine R_p rfl ?_ rfl rfl; refine R_p rfl ?_ rfl rfl; refine R_nil ?_; refine S_seq rfl ?_; refine S_seq rfl ?_; refine S_region rfl rfl ?_; refine R_p rfl ?_ rfl rfl; refine R_nil ?_; refine S_block rfl ?_)
  refine S_loop (X := Nat × Bool) (fun x => [(0, .slice A1 n1 c1), (1, .slice A2 n2 c2'), (5, .bool x.2), (6, .int .i64 (x.1 : Int))]) (fun _ => []) (fun x => x.1 ≤ n1 ∧ x.2 = decide (n1 = n2 ∧ l1.take x.1 = l2.take x.1)) (fun x => n1 - x.1) rfl (0, decide ((n1 : Int) = (n2 : Int))) ⟨Nat.zero_le _, by simp; omega⟩ (Sub.cons rfl (Sub.cons rfl (Sub.cons rfl (Sub.cons rfl Sub.nil)))) (fun _ h => h) ?_
  rintro ⟨j, b⟩ ⟨hj, hb⟩ J hJ
  dsimp only at hj hb ⊢
  cases b
  · --
    focus (refine S_seq rfl ?_; refine S_seq rfl ?_; refine S_region rfl rfl ?_; refine R_p rfl ?_ rfl rfl; refine R_p rfl ?_ rfl rfl; refine R_skip ?_ rfl rfl; refine R_skip ?_ rfl rfl; refine R_skip ?_ rfl rfl; refine R_skip ?_ rfl rfl; refine R_p rfl ?_ rfl rfl; refine R_nil ?_; refine S_false rfl rfl ?_; refine S_exit rfl rfl ?_; refine S_seq rfl ?_; refine S_region rfl rfl ?_; refine R_p rfl ?_ rfl rfl; refine R_p rfl ?_ rfl rfl; refine R_nil ?_)
    refine hB _ _ _ _ _ rfl rfl fun w' hS => ⟨(), ?_, trivial, hS.sublist (List.nil_sublist _)⟩
    refine congrArg Value.bool ?_
    rw [eq_comm, decide_eq_false_iff_not]
    rintro rfl
    simp at hb
    omega
  simp at hb
  rcases Nat.lt_or_ge j n1 with hjl | hjl
  · have hlt2 : j < n2 := by omega
    have hA1 : A1 ≠ none := fun e => by obtain ⟨ad, h, _⟩ := hr1.2 (by omega); rw [e] at h; cases h
    have hA2 : A2 ≠ none := fun e => by obtain ⟨ad, h, _⟩ := hr2.2 (by omega); rw [e] at h; cases h
    have hat1 : (l1.map bv)[j]? = some (.int .u8 ((l1.getD j 0).toNat : Int)) := by simp [bv, List.getD, show j < l1.length by omega]
    have hat2 : (l2.map bv)[j]? = some (.int .u8 ((l2.getD j 0).toNat : Int)) := by simp [bv, List.getD, show j < l2.length by omega]
    obtain ⟨q, hq⟩ : ∃ q, decide (((l1.getD j 0).toNat : Int) = ((l2.getD j 0).toNat : Int)) = q := ⟨_, rfl⟩
    focus (refine S_seq rfl ?_; refine S_seq rfl ?_; refine S_region rfl rfl ?_; refine R_p rfl ?_ rfl rfl; refine R_p rfl ?_ rfl rfl; refine R_p rfl ?_ rfl rfl; refine R_p rfl ?_ rfl rfl; refine R_p rfl ?_ rfl rfl; refine R_take (T_decT rfl (by omega)) ?_ rfl rfl; refine R_p rfl ?_ rfl rfl; refine R_nil ?_; refine S_true rfl rfl ?_; refine S_skip rfl ?_; refine S_seq rfl ?_; refine S_block rfl ?_; (refine S_draw _ (fun _ h => h) (by kernel_rfl) rfl (by kernel_rfl) (rfl : _ = 10) ?_; (refine D_take 0 rfl (pev_ok rfl) ?_ rfl rfl (by kernel_rfl) (by kernel_rfl)); (refine D_take 1 rfl (pev_ok rfl) ?_ rfl rfl (by kernel_rfl) (by kernel_rfl)); (refine D_take 2 rfl (T_ixN rfl rfl rfl rfl rfl rfl hA1 hjl) ?_ rfl rfl (by kernel_rfl) (by kernel_rfl)); (refine D_take 3 rfl (T_ldr rfl rfl rfl (Srd.old hr1 (fun k _ => noOwns k)) (by omega) hat1) ?_ rfl rfl (by kernel_rfl) (by kernel_rfl)); (refine D_take 4 rfl (pev_ok rfl) ?_ rfl rfl (by kernel_rfl) (by kernel_rfl)); (refine D_take 5 rfl (pev_ok rfl) ?_ rfl rfl (by kernel_rfl) (by kernel_rfl)); (refine D_take 6 rfl (T_ixN rfl rfl rfl rfl rfl rfl hA2 hlt2) ?_ rfl rfl (by kernel_rfl) (by kernel_rfl)); (refine D_take 7 rfl (T_ldr rfl rfl rfl (Srd.old hr2 (fun k _ => noOwns k)) (by omega) hat2) ?_ rfl rfl (by kernel_rfl) (by kernel_rfl)); (refine D_take 8 rfl (pev_ok rfl) ?_ rfl rfl (by kernel_rfl) (by kernel_rfl)); (refine D_take 9 rfl (pev_ok rfl) ?_ rfl rfl (by kernel_rfl) (by kernel_rfl)); refine D_done ?_ (by kernel_rfl)); refine RS_blk ?_; refine S_region rfl rfl ?_; refine R_p rfl ?_ rfl rfl; refine R_take (T_addN rfl rfl (by unfold fits; omega)) ?_ rfl rfl; refine R_p rfl ?_ rfl rfl; refine R_nil ?_)
    refine hJ (j + 1, decide (((l1.getD j 0).toNat : Int) = ((l2.getD j 0).toNat : Int))) _ _ ⟨by show j + 1 ≤ _; omega, ?_⟩ (Sub.cons rfl (Sub.cons rfl (Sub.cons rfl (Sub.cons rfl Sub.nil)))) (fun _ h => h) (by show n1 - (j + 1) < _; omega)
    rw [Bool.eq_iff_iff]
    have e1 : l1.take (j + 1) = l1.take j ++ [l1.getD j 0] := by rw [List.take_succ_eq_append_getElem (by omega)]; simp [List.getD, show j < l1.length by omega]
    have e2 : l2.take (j + 1) = l2.take j ++ [l2.getD j 0] := by rw [List.take_succ_eq_append_getElem (by omega)]; simp [List.getD, show j < l2.length by omega]
    simp only [decide_eq_true_eq]
    rw [e1, e2, hb.2, List.append_cancel_left_eq]
    constructor
    · intro h3
      have h4 : (l1.getD j 0).toNat = (l2.getD j 0).toNat := by exact_mod_cast h3
      exact ⟨hb.1, by rw [UInt8.toNat_inj.1 h4]⟩
    · rintro ⟨_, h3⟩
      injection h3 with h3
      rw [h3]
  · skip
    focus (refine S_seq rfl ?_; refine S_seq rfl ?_; refine S_region rfl rfl ?_; refine R_p rfl ?_ rfl rfl; refine R_p rfl ?_ rfl rfl; refine R_p rfl ?_ rfl rfl; refine R_p rfl ?_ rfl rfl; refine R_p rfl ?_ rfl rfl; refine R_take (T_decF rfl (by omega)) ?_ rfl rfl; refine R_p rfl ?_ rfl rfl; refine R_nil ?_; refine S_false rfl rfl ?_; refine S_exit rfl rfl ?_; refine S_seq rfl ?_; refine S_region rfl rfl ?_; refine R_p rfl ?_ rfl rfl; refine R_p rfl ?_ rfl rfl; refine R_nil ?_)
    refine hB _ _ _ _ _ rfl rfl fun w' hS => ⟨(), ?_, trivial, hS.sublist (List.nil_sublist _)⟩
    refine congrArg Value.bool ?_
    rw [eq_comm, decide_eq_true_eq]
    have := hb.2
    rwa [List.take_of_length_le (by omega), List.take_of_length_le (by omega)] at this
set_option maxRecDepth 100000 in
set_option maxHeartbeats 4000000 in
theorem sameN_k (w : World) (A : Option Addr) (c n : Nat) (P : List Pk) (W : List Pn) (hk : P.length = n) (hW : P.map pkv = W) (h : Rd w All 3 A n (cellsL pkc P)) (A2 : Option Addr) (c2' n2 : Nat) (C : List Ct) (hk2 : C.length = n2) (h2 : Rd w All 2 A2 n2 (cellsL ctc C)) (B1 : Option Addr) (d m : Nat) (Q : List Pk) (V : List Pn) (hm : Q.length = m) (hV : Q.map pkv = V) (k1 : Rd w All 3 B1 m (cellsL pkc Q)) (B2 : Option Addr) (d2 m2 : Nat) (D : List Ct) (hm2 : D.length = m2) (k2 : Rd w All 2 B2 m2 (cellsL ctc D)) (hp : ∀ m ∈ P, BsP w m) (hq : ∀ m ∈ Q, BsP w m) (hn : n ≤ 1000) (hn2 : n2 ≤ 1000) (hmm : m ≤ 1000) (hmm2 : m2 ≤ 1000) (r : Bool) (hr : (decide (W = V) && decide (C = D)) = r) :
    Gives Try.prog 21 [.agg (ntc A n c A2 n2 c2').toArray, .agg (ntc B1 m d B2 m2 d2).toArray] [] w (X := Unit) (fun _ => .bool r) (fun _ => True) (fun _ => []) := by
  refine gives_S Try.func21 rfl Try.ntmps21 Try.results21 (by simp) (St.enter w) (fun B hB => ?_)
  subst hk hm hk2 hm2
  obtain ⟨q1, hq1⟩ : ∃ q, decide (C = D) = q := ⟨_, rfl⟩
  obtain ⟨q2, hq2⟩ : ∃ q, decide (P.map pkv = Q.map pkv) = q := ⟨_, rfl⟩
  rw [← hr, ← hW, ← hV, hq1, hq2] at hB
  cases q1
  · rw [Bool.and_false] at hB
    focus (refine S_seq rfl ?_; refine S_region rfl rfl ?_; (refine R_eff (E_boxa (cs := ntc A P.length c A2 C.length c2') rfl) ?_ rfl rfl; rintro _ _ ⟨b2, rfl, rfl⟩); (refine R_eff (E_boxa (cs := ntc B1 Q.length d B2 D.length d2) rfl) ?_ rfl rfl; rintro _ _ ⟨b3, rfl, rfl⟩); refine R_p rfl ?_ rfl rfl; refine R_nil ?_; refine S_seq rfl ?_; refine S_region rfl rfl ?_; refine R_p rfl ?_ rfl rfl; refine R_take (T_load rfl rfl rfl rfl) ?_ rfl rfl; refine R_p rfl ?_ rfl rfl; refine R_take (T_load rfl rfl rfl rfl) ?_ rfl rfl; ((refine R_eff (E_hv0 (f := 46) ⟨_, Try.func46, rfl, by kernel_rfl⟩ (fun w hS => equalCt_any w A2 B2 C.length c2' D.length d2 C D ((Srd.old h2 (fun k _ => noOwns k)).rd w hS) ((Srd.old k2 (fun k _ => noOwns k)).rd w hS) (by omega) (by omega)) rfl rfl (fun _ => rfl)) ?_ rfl rfl; rintro _ _ ⟨_, rfl, _, rfl⟩); rw [hq1]); refine R_p rfl ?_ rfl rfl; refine R_skip ?_ rfl rfl; refine R_skip ?_ rfl rfl; refine R_skip ?_ rfl rfl; refine R_skip ?_ rfl rfl; refine R_skip ?_ rfl rfl; refine R_p rfl ?_ rfl rfl; refine R_p rfl ?_ rfl rfl; refine R_nil ?_)
    exact hB _ _ _ _ _ rfl rfl fun w' hS => ⟨(), rfl, trivial, hS.sublist (List.nil_sublist _)⟩
  · rw [Bool.and_true] at hB
    focus (refine S_seq rfl ?_; refine S_region rfl rfl ?_; (refine R_eff (E_boxa (cs := ntc A P.length c A2 C.length c2') rfl) ?_ rfl rfl; rintro _ _ ⟨b2, rfl, rfl⟩); (refine R_eff (E_boxa (cs := ntc B1 Q.length d B2 D.length d2) rfl) ?_ rfl rfl; rintro _ _ ⟨b3, rfl, rfl⟩); refine R_p rfl ?_ rfl rfl; refine R_nil ?_; refine S_seq rfl ?_; refine S_region rfl rfl ?_; refine R_p rfl ?_ rfl rfl; refine R_take (T_load rfl rfl rfl rfl) ?_ rfl rfl; refine R_p rfl ?_ rfl rfl; refine R_take (T_load rfl rfl rfl rfl) ?_ rfl rfl; ((refine R_eff (E_hv0 (f := 46) ⟨_, Try.func46, rfl, by kernel_rfl⟩ (fun w hS => equalCt_any w A2 B2 C.length c2' D.length d2 C D ((Srd.old h2 (fun k _ => noOwns k)).rd w hS) ((Srd.old k2 (fun k _ => noOwns k)).rd w hS) (by omega) (by omega)) rfl rfl (fun _ => rfl)) ?_ rfl rfl; rintro _ _ ⟨_, rfl, _, rfl⟩); rw [hq1]); refine R_p rfl ?_ rfl rfl; refine R_p rfl ?_ rfl rfl; refine R_take (T_load rfl rfl rfl rfl) ?_ rfl rfl; refine R_p rfl ?_ rfl rfl; refine R_take (T_load rfl rfl rfl rfl) ?_ rfl rfl; ((refine R_eff (E_hv0 (f := 47) ⟨_, Try.func47, rfl, by kernel_rfl⟩ (fun w hS => eqfP_any w A B1 c d P Q ((Srd.old h (fun k _ => noOwns k)).rd w hS) ((Srd.old k1 (fun k _ => noOwns k)).rd w hS) (fun x hx => (Src.old (hp x hx) (fun k _ => noOwns k)).bs w hS) (fun x hx => (Src.old (hq x hx) (fun k _ => noOwns k)).bs w hS) (by omega) (by omega)) rfl rfl (fun _ => rfl)) ?_ rfl rfl; rintro _ _ ⟨_, rfl, _, rfl⟩); rw [hq2]); refine R_p rfl ?_ rfl rfl; refine R_p rfl ?_ rfl rfl; refine R_nil ?_)
    exact hB _ _ _ _ _ rfl rfl fun w' hS => ⟨(), rfl, trivial, hS.sublist (List.nil_sublist _)⟩
set_option maxRecDepth 100000 in
set_option maxHeartbeats 4000000 in
theorem sameD_k (w : World) (A : Option Addr) (c n : Nat) (P : List Pk) (W : List Pn) (hk : P.length = n) (hW : P.map pkv = W) (h : Rd w All 3 A n (cellsL pkc P)) (A2 : Option Addr) (c2' n2 : Nat) (C : List Ct) (hk2 : C.length = n2) (h2 : Rd w All 2 A2 n2 (cellsL ctc C)) (B1 : Option Addr) (d m : Nat) (Q : List Pk) (V : List Pn) (hm : Q.length = m) (hV : Q.map pkv = V) (k1 : Rd w All 3 B1 m (cellsL pkc Q)) (B2 : Option Addr) (d2 m2 : Nat) (D : List Ct) (hm2 : D.length = m2) (k2 : Rd w All 2 B2 m2 (cellsL ctc D)) (hp : ∀ m ∈ P, BsP w m) (hq : ∀ m ∈ Q, BsP w m) (hn : n ≤ 1000) (hn2 : n2 ≤ 1000) (hmm : m ≤ 1000) (hmm2 : m2 ≤ 1000) (r : Bool) (hr : (decide (W = V) && decide (C = D)) = r) :
    Gives Try.prog 19 [.agg (ntc A n c A2 n2 c2').toArray, .agg (ntc B1 m d B2 m2 d2).toArray] [] w (X := Unit) (fun _ => .bool r) (fun _ => True) (fun _ => []) := by
  refine gives_S Try.func19 rfl Try.ntmps19 Try.results19 (by simp) (St.enter w) (fun B hB => ?_)
  have hne : 0 < n → A ≠ none := fun h0 => by obtain ⟨ad, rfl, _⟩ := h.2 (by omega); simp
  have hne2 : 0 < n2 → A2 ≠ none := fun h0 => by obtain ⟨ad, rfl, _⟩ := h2.2 (by omega); simp
  have hmb : 0 < m → B1 ≠ none := fun h0 => by obtain ⟨ad, rfl, _⟩ := k1.2 (by omega); simp
  have hmb2 : 0 < m2 → B2 ≠ none := fun h0 => by obtain ⟨ad, rfl, _⟩ := k2.2 (by omega); simp
  have hWn : W.length = n := by rw [← hW, List.length_map, hk]
  have hVm : V.length = m := by rw [← hV, List.length_map, hm]
  by_cases hnm : n = m
  · by_cases hnm2 : n2 = m2
    · focus (refine S_seq rfl ?_; refine S_region rfl rfl ?_; (refine R_eff (E_boxa (cs := ntc A n c A2 n2 c2') rfl) ?_ rfl rfl; rintro _ _ ⟨b2, rfl, rfl⟩); (refine R_eff (E_boxa (cs := ntc B1 m d B2 m2 d2) rfl) ?_ rfl rfl; rintro _ _ ⟨b3, rfl, rfl⟩); refine R_p rfl ?_ rfl rfl; refine R_nil ?_; refine S_seq rfl ?_; refine S_seq rfl ?_; refine S_region rfl rfl ?_; refine R_p rfl ?_ rfl rfl; refine R_take (T_load rfl rfl rfl rfl) ?_ rfl rfl; refine R_p rfl ?_ rfl rfl; refine R_p rfl ?_ rfl rfl; refine R_take (T_load rfl rfl rfl rfl) ?_ rfl rfl; refine R_p rfl ?_ rfl rfl; refine R_take (T_decF rfl (by omega)) ?_ rfl rfl; refine R_p rfl ?_ rfl rfl; refine R_p rfl ?_ rfl rfl; refine R_take (T_load rfl rfl rfl rfl) ?_ rfl rfl; refine R_p rfl ?_ rfl rfl; refine R_p rfl ?_ rfl rfl; refine R_take (T_load rfl rfl rfl rfl) ?_ rfl rfl; refine R_p rfl ?_ rfl rfl; refine R_take (T_decF rfl (by omega)) ?_ rfl rfl; refine R_p rfl ?_ rfl rfl; refine R_nil ?_; refine S_false rfl rfl ?_; refine S_skip rfl ?_; refine S_seq rfl ?_; refine S_seq rfl ?_; refine S_region rfl rfl ?_; refine R_p rfl ?_ rfl rfl; refine R_nil ?_; refine S_block rfl ?_)
      refine S_loop (X := Nat) (fun j => [(2, .pointer (some ⟨b2, 0, none⟩)), (3, .pointer (some ⟨b3, 0, none⟩)), (5, .int .i64 (j : Int))]) (fun _ => [pt b2 25 (ntc A n c A2 n2 c2'), pt b3 25 (ntc B1 m d B2 m2 d2)]) (fun j => j ≤ n ∧ ∀ i, i < j → W.getD i default = V.getD i default) (fun j => n - j) rfl 0 ⟨Nat.zero_le _, fun i hi => absurd hi (Nat.not_lt_zero _)⟩ (Sub.cons rfl (Sub.cons rfl (Sub.cons rfl Sub.nil))) sub_st ?_
      rintro j ⟨hj, hok⟩ J hJ
      rcases Nat.lt_or_ge j n with hjl | hjl
      · have hne := hne (by omega)
        have hmb := hmb (by omega)
        have hjm : j < m := by omega
        have hat := cellsL_at (f := pkc) pkc_len P default j (by omega)
        have hau := cellsL_at (f := pkc) pkc_len Q default j (by omega)
        have eq1 : W.getD j default = pkv (P.getD j default) := by rw [← hW]; simp [List.getD, show j < P.length by omega]
        have eq2 : V.getD j default = pkv (Q.getD j default) := by rw [← hV]; simp [List.getD, show j < Q.length by omega]
        have hb1 := hp (P.getD j default) (by simp [List.getD, show j < P.length by omega])
        have hb2 := hq (Q.getD j default) (by simp [List.getD, show j < Q.length by omega])
        have hnx : pkv (P.getD j default) = pkv (Q.getD j default) → ∀ i, i < j + 1 → W.getD i default = V.getD i default := fun e i hi => by
          rcases Nat.lt_or_ge i j with h3 | h3
          · exact hok i h3
          · rw [show i = j by omega, eq1, eq2]; exact e
        have hno : pkv (P.getD j default) ≠ pkv (Q.getD j default) → (decide (W = V) && decide (C = D)) = false := fun e => by
          rw [decide_eq_false (fun e2 => e (by rw [← eq1, ← eq2, e2])), Bool.false_and]
        generalize P.getD j default = x at hat hb1 hnx hno
        generalize Q.getD j default = y at hau hb2 hnx hno
        obtain ⟨f, t, F, cf, l⟩ := x
        obtain ⟨f2, t2, F2, cf2, l2⟩ := y
        have hb1 : Bs w All F l.length cf l := hb1
        have hb2 : Bs w All F2 l2.length cf2 l2 := hb2
        have hat0 : (cellsL pkc P)[j * 3 + 0]? = some (.int .i64 f) := hat 0 _ rfl
        have hat1 : (cellsL pkc P)[j * 3 + 1]? = some (.int .i64 t) := hat 1 _ rfl
        have hat2 : (cellsL pkc P)[j * 3 + 2]? = some (.slice F l.length cf) := hat 2 _ rfl
        have hau0 : (cellsL pkc Q)[j * 3 + 0]? = some (.int .i64 f2) := hau 0 _ rfl
        have hau1 : (cellsL pkc Q)[j * 3 + 1]? = some (.int .i64 t2) := hau 1 _ rfl
        have hau2 : (cellsL pkc Q)[j * 3 + 2]? = some (.slice F2 l2.length cf2) := hau 2 _ rfl
        obtain ⟨lq, hlq⟩ : ∃ q, decide (l = l2) = q := ⟨_, rfl⟩
        focus (refine S_seq rfl ?_; refine S_seq rfl ?_; refine S_region rfl rfl ?_; refine R_p rfl ?_ rfl rfl; refine R_p rfl ?_ rfl rfl; refine R_take (T_load rfl rfl rfl rfl) ?_ rfl rfl; refine R_p rfl ?_ rfl rfl; refine R_take (T_decT rfl (by omega)) ?_ rfl rfl; refine R_nil ?_; refine S_true rfl rfl ?_; refine S_skip rfl ?_; refine S_seq rfl ?_; refine S_block rfl ?_; refine S_seq rfl ?_)
        by_cases e1 : f = f2
        · by_cases e2 : t = t2
          · skip
            refine S_draw ([pt b2 25 (ntc A n c A2 n2 c2'), pt b3 25 (ntc B1 m d B2 m2 d2)]) sub_st (by kernel_rfl) rfl (by kernel_rfl) (by kernel_rfl : _ = 44) ?_
            refine D_take 0 rfl (pev_ok rfl) ?_ rfl rfl (by kernel_rfl) (by kernel_rfl)
            refine D_take 1 rfl (T_load rfl rfl rfl rfl) ?_ rfl rfl (by kernel_rfl) (by kernel_rfl)
            refine D_take 2 rfl (pev_ok rfl) ?_ rfl rfl (by kernel_rfl) (by kernel_rfl)
            refine D_take 3 rfl (T_ixM (sz := 3) (q := j) rfl rfl rfl rfl rfl rfl hne hjl) ?_ rfl rfl (by kernel_rfl) (by kernel_rfl)
            refine D_take 4 rfl (T_fap rfl rfl rfl rfl rfl hne) ?_ rfl rfl (by kernel_rfl) (by kernel_rfl)
            refine D_take 5 rfl (T_ldr rfl rfl rfl (Srd.old h (fun k _ => noOwns k)) (by omega) hat0) ?_ rfl rfl (by kernel_rfl) (by kernel_rfl)
            refine D_take 6 rfl (pev_ok rfl) ?_ rfl rfl (by kernel_rfl) (by kernel_rfl)
            refine D_take 7 rfl (T_load rfl rfl rfl rfl) ?_ rfl rfl (by kernel_rfl) (by kernel_rfl)
            refine D_take 8 rfl (pev_ok rfl) ?_ rfl rfl (by kernel_rfl) (by kernel_rfl)
            refine D_take 9 rfl (T_ixM (sz := 3) (q := j) rfl rfl rfl rfl rfl rfl hmb hjm) ?_ rfl rfl (by kernel_rfl) (by kernel_rfl)
            refine D_take 10 rfl (T_fap rfl rfl rfl rfl rfl hmb) ?_ rfl rfl (by kernel_rfl) (by kernel_rfl)
            refine D_take 11 rfl (T_ldr rfl rfl rfl (Srd.old k1 (fun k _ => noOwns k)) (by omega) hau0) ?_ rfl rfl (by kernel_rfl) (by kernel_rfl)
            refine D_take 12 rfl (T_decF rfl (by omega)) ?_ rfl rfl (by kernel_rfl) (by kernel_rfl)
            refine D_take 13 rfl (pev_ok rfl) ?_ rfl rfl (by kernel_rfl) (by kernel_rfl)
            refine D_take 14 rfl (pev_ok rfl) ?_ rfl rfl (by kernel_rfl) (by kernel_rfl)
            refine D_take 15 rfl (T_load rfl rfl rfl rfl) ?_ rfl rfl (by kernel_rfl) (by kernel_rfl)
            refine D_take 16 rfl (pev_ok rfl) ?_ rfl rfl (by kernel_rfl) (by kernel_rfl)
            refine D_take 17 rfl (T_ixM (sz := 3) (q := j) rfl rfl rfl rfl rfl rfl hne hjl) ?_ rfl rfl (by kernel_rfl) (by kernel_rfl)
            refine D_take 18 rfl (T_fap rfl rfl rfl rfl rfl hne) ?_ rfl rfl (by kernel_rfl) (by kernel_rfl)
            refine D_take 19 rfl (T_ldr rfl rfl rfl (Srd.old h (fun k _ => noOwns k)) (by omega) hat1) ?_ rfl rfl (by kernel_rfl) (by kernel_rfl)
            refine D_take 20 rfl (pev_ok rfl) ?_ rfl rfl (by kernel_rfl) (by kernel_rfl)
            refine D_take 21 rfl (T_load rfl rfl rfl rfl) ?_ rfl rfl (by kernel_rfl) (by kernel_rfl)
            refine D_take 22 rfl (pev_ok rfl) ?_ rfl rfl (by kernel_rfl) (by kernel_rfl)
            refine D_take 23 rfl (T_ixM (sz := 3) (q := j) rfl rfl rfl rfl rfl rfl hmb hjm) ?_ rfl rfl (by kernel_rfl) (by kernel_rfl)
            refine D_take 24 rfl (T_fap rfl rfl rfl rfl rfl hmb) ?_ rfl rfl (by kernel_rfl) (by kernel_rfl)
            refine D_take 25 rfl (T_ldr rfl rfl rfl (Srd.old k1 (fun k _ => noOwns k)) (by omega) hau1) ?_ rfl rfl (by kernel_rfl) (by kernel_rfl)
            refine D_take 26 rfl (T_decF rfl (by omega)) ?_ rfl rfl (by kernel_rfl) (by kernel_rfl)
            refine D_take 27 rfl (pev_ok rfl) ?_ rfl rfl (by kernel_rfl) (by kernel_rfl)
            refine D_take 28 rfl (pev_ok rfl) ?_ rfl rfl (by kernel_rfl) (by kernel_rfl)
            refine D_take 29 rfl (pev_ok rfl) ?_ rfl rfl (by kernel_rfl) (by kernel_rfl)
            refine D_take 30 rfl (T_load rfl rfl rfl rfl) ?_ rfl rfl (by kernel_rfl) (by kernel_rfl)
            refine D_take 31 rfl (pev_ok rfl) ?_ rfl rfl (by kernel_rfl) (by kernel_rfl)
            refine D_take 32 rfl (T_ixM (sz := 3) (q := j) rfl rfl rfl rfl rfl rfl hne hjl) ?_ rfl rfl (by kernel_rfl) (by kernel_rfl)
            refine D_take 33 rfl (T_fap rfl rfl rfl rfl rfl hne) ?_ rfl rfl (by kernel_rfl) (by kernel_rfl)
            refine D_take 34 rfl (T_ldr rfl rfl rfl (Srd.old h (fun k _ => noOwns k)) (by omega) hat2) ?_ rfl rfl (by kernel_rfl) (by kernel_rfl)
            refine D_take 35 rfl (pev_ok rfl) ?_ rfl rfl (by kernel_rfl) (by kernel_rfl)
            refine D_take 36 rfl (T_load rfl rfl rfl rfl) ?_ rfl rfl (by kernel_rfl) (by kernel_rfl)
            refine D_take 37 rfl (pev_ok rfl) ?_ rfl rfl (by kernel_rfl) (by kernel_rfl)
            refine D_take 38 rfl (T_ixM (sz := 3) (q := j) rfl rfl rfl rfl rfl rfl hmb hjm) ?_ rfl rfl (by kernel_rfl) (by kernel_rfl)
            refine D_take 39 rfl (T_fap rfl rfl rfl rfl rfl hmb) ?_ rfl rfl (by kernel_rfl) (by kernel_rfl)
            refine D_take 40 rfl (T_ldr rfl rfl rfl (Srd.old k1 (fun k _ => noOwns k)) (by omega) hau2) ?_ rfl rfl (by kernel_rfl) (by kernel_rfl)
            refine D_one 41 rfl (E_hv0 (f := 41) ⟨_, Try.func41, rfl, by kernel_rfl⟩ (fun w hS => same01_k w F F2 l.length cf l2.length cf2 l l2 ((Src.old hb1 (fun k _ => noOwns k)).bs w hS) ((Src.old hb2 (fun k _ => noOwns k)).bs w hS)) rfl rfl (fun _ => rfl)) ?_ rfl rfl (by kernel_rfl)
            rintro _ _ ⟨_, rfl, _, rfl⟩; rw [hlq]
            refine Nx_same sub_st ?_
            refine D_take 42 rfl (T_not rfl) ?_ rfl rfl (by kernel_rfl) (by kernel_rfl)
            refine D_take 43 rfl (pev_ok rfl) ?_ rfl rfl (by kernel_rfl) (by kernel_rfl)
            refine D_done ?_ (by kernel_rfl)
            skip
            cases lq
            · rw [hno (fun e => of_decide_eq_false hlq (congrArg (fun z : Pn => z.2.2) e))] at hr
              subst hr
              focus (refine S_true rfl rfl ?_; refine S_seq rfl ?_; refine S_region rfl rfl ?_; refine R_p rfl ?_ rfl rfl; refine R_nil ?_)
              exact hB _ _ _ _ _ rfl rfl fun w' hS => ⟨(), rfl, trivial, hS.sublist (List.nil_sublist _)⟩
            · focus (refine S_false rfl rfl ?_; refine S_skip rfl ?_; refine RS_blk ?_; refine S_region rfl rfl ?_; refine R_p rfl ?_ rfl rfl; refine R_take (T_addN rfl rfl (by unfold fits; omega)) ?_ rfl rfl; refine R_p rfl ?_ rfl rfl; refine R_nil ?_)
              exact hJ (j + 1) _ _ ⟨by omega, hnx (by show (f, t, l) = (f2, t2, l2); rw [e1, e2, of_decide_eq_true hlq])⟩ (Sub.cons rfl (Sub.cons rfl (Sub.cons rfl Sub.nil))) sub_st (by omega)
          · rw [hno (fun e => e2 (congrArg (fun z : Pn => z.2.1) e))] at hr
            subst hr
            refine S_draw ([pt b2 25 (ntc A n c A2 n2 c2'), pt b3 25 (ntc B1 m d B2 m2 d2)]) sub_st (by kernel_rfl) rfl (by kernel_rfl) (by kernel_rfl : _ = 44) ?_
            refine D_take 0 rfl (pev_ok rfl) ?_ rfl rfl (by kernel_rfl) (by kernel_rfl)
            refine D_take 1 rfl (T_load rfl rfl rfl rfl) ?_ rfl rfl (by kernel_rfl) (by kernel_rfl)
            refine D_take 2 rfl (pev_ok rfl) ?_ rfl rfl (by kernel_rfl) (by kernel_rfl)
            refine D_take 3 rfl (T_ixM (sz := 3) (q := j) rfl rfl rfl rfl rfl rfl hne hjl) ?_ rfl rfl (by kernel_rfl) (by kernel_rfl)
            refine D_take 4 rfl (T_fap rfl rfl rfl rfl rfl hne) ?_ rfl rfl (by kernel_rfl) (by kernel_rfl)
            refine D_take 5 rfl (T_ldr rfl rfl rfl (Srd.old h (fun k _ => noOwns k)) (by omega) hat0) ?_ rfl rfl (by kernel_rfl) (by kernel_rfl)
            refine D_take 6 rfl (pev_ok rfl) ?_ rfl rfl (by kernel_rfl) (by kernel_rfl)
            refine D_take 7 rfl (T_load rfl rfl rfl rfl) ?_ rfl rfl (by kernel_rfl) (by kernel_rfl)
            refine D_take 8 rfl (pev_ok rfl) ?_ rfl rfl (by kernel_rfl) (by kernel_rfl)
            refine D_take 9 rfl (T_ixM (sz := 3) (q := j) rfl rfl rfl rfl rfl rfl hmb hjm) ?_ rfl rfl (by kernel_rfl) (by kernel_rfl)
            refine D_take 10 rfl (T_fap rfl rfl rfl rfl rfl hmb) ?_ rfl rfl (by kernel_rfl) (by kernel_rfl)
            refine D_take 11 rfl (T_ldr rfl rfl rfl (Srd.old k1 (fun k _ => noOwns k)) (by omega) hau0) ?_ rfl rfl (by kernel_rfl) (by kernel_rfl)
            refine D_take 12 rfl (T_decF rfl (by omega)) ?_ rfl rfl (by kernel_rfl) (by kernel_rfl)
            refine D_take 13 rfl (pev_ok rfl) ?_ rfl rfl (by kernel_rfl) (by kernel_rfl)
            refine D_take 14 rfl (pev_ok rfl) ?_ rfl rfl (by kernel_rfl) (by kernel_rfl)
            refine D_take 15 rfl (T_load rfl rfl rfl rfl) ?_ rfl rfl (by kernel_rfl) (by kernel_rfl)
            refine D_take 16 rfl (pev_ok rfl) ?_ rfl rfl (by kernel_rfl) (by kernel_rfl)
            refine D_take 17 rfl (T_ixM (sz := 3) (q := j) rfl rfl rfl rfl rfl rfl hne hjl) ?_ rfl rfl (by kernel_rfl) (by kernel_rfl)
            refine D_take 18 rfl (T_fap rfl rfl rfl rfl rfl hne) ?_ rfl rfl (by kernel_rfl) (by kernel_rfl)
            refine D_take 19 rfl (T_ldr rfl rfl rfl (Srd.old h (fun k _ => noOwns k)) (by omega) hat1) ?_ rfl rfl (by kernel_rfl) (by kernel_rfl)
            refine D_take 20 rfl (pev_ok rfl) ?_ rfl rfl (by kernel_rfl) (by kernel_rfl)
            refine D_take 21 rfl (T_load rfl rfl rfl rfl) ?_ rfl rfl (by kernel_rfl) (by kernel_rfl)
            refine D_take 22 rfl (pev_ok rfl) ?_ rfl rfl (by kernel_rfl) (by kernel_rfl)
            refine D_take 23 rfl (T_ixM (sz := 3) (q := j) rfl rfl rfl rfl rfl rfl hmb hjm) ?_ rfl rfl (by kernel_rfl) (by kernel_rfl)
            refine D_take 24 rfl (T_fap rfl rfl rfl rfl rfl hmb) ?_ rfl rfl (by kernel_rfl) (by kernel_rfl)
            refine D_take 25 rfl (T_ldr rfl rfl rfl (Srd.old k1 (fun k _ => noOwns k)) (by omega) hau1) ?_ rfl rfl (by kernel_rfl) (by kernel_rfl)
            refine D_take 26 rfl (T_decT rfl (by omega)) ?_ rfl rfl (by kernel_rfl) (by kernel_rfl)
            refine D_take 27 rfl (pev_ok rfl) ?_ rfl rfl (by kernel_rfl) (by kernel_rfl)
            refine D_take 28 rfl (pev_ok rfl) ?_ rfl rfl (by kernel_rfl) (by kernel_rfl)
            refine D_skip 29 rfl ?_ rfl rfl (by kernel_rfl) (by kernel_rfl)
            refine D_skip 30 rfl ?_ rfl rfl (by kernel_rfl) (by kernel_rfl)
            refine D_skip 31 rfl ?_ rfl rfl (by kernel_rfl) (by kernel_rfl)
            refine D_skip 32 rfl ?_ rfl rfl (by kernel_rfl) (by kernel_rfl)
            refine D_skip 33 rfl ?_ rfl rfl (by kernel_rfl) (by kernel_rfl)
            refine D_skip 34 rfl ?_ rfl rfl (by kernel_rfl) (by kernel_rfl)
            refine D_skip 35 rfl ?_ rfl rfl (by kernel_rfl) (by kernel_rfl)
            refine D_skip 36 rfl ?_ rfl rfl (by kernel_rfl) (by kernel_rfl)
            refine D_skip 37 rfl ?_ rfl rfl (by kernel_rfl) (by kernel_rfl)
            refine D_skip 38 rfl ?_ rfl rfl (by kernel_rfl) (by kernel_rfl)
            refine D_skip 39 rfl ?_ rfl rfl (by kernel_rfl) (by kernel_rfl)
            refine D_skip 40 rfl ?_ rfl rfl (by kernel_rfl) (by kernel_rfl)
            refine D_skip 41 rfl ?_ rfl rfl (by kernel_rfl) (by kernel_rfl)
            refine D_skip 42 rfl ?_ rfl rfl (by kernel_rfl) (by kernel_rfl)
            refine D_take 43 rfl (pev_ok rfl) ?_ rfl rfl (by kernel_rfl) (by kernel_rfl)
            refine D_done ?_ (by kernel_rfl)
            skip
            focus (refine S_true rfl rfl ?_; refine S_seq rfl ?_; refine S_region rfl rfl ?_; refine R_p rfl ?_ rfl rfl; refine R_nil ?_)
            exact hB _ _ _ _ _ rfl rfl fun w' hS => ⟨(), rfl, trivial, hS.sublist (List.nil_sublist _)⟩
        · rw [hno (fun e => e1 (congrArg (fun z : Pn => z.1) e))] at hr
          subst hr
          refine S_draw ([pt b2 25 (ntc A n c A2 n2 c2'), pt b3 25 (ntc B1 m d B2 m2 d2)]) sub_st (by kernel_rfl) rfl (by kernel_rfl) (by kernel_rfl : _ = 44) ?_
          refine D_take 0 rfl (pev_ok rfl) ?_ rfl rfl (by kernel_rfl) (by kernel_rfl)
          refine D_take 1 rfl (T_load rfl rfl rfl rfl) ?_ rfl rfl (by kernel_rfl) (by kernel_rfl)
          refine D_take 2 rfl (pev_ok rfl) ?_ rfl rfl (by kernel_rfl) (by kernel_rfl)
          refine D_take 3 rfl (T_ixM (sz := 3) (q := j) rfl rfl rfl rfl rfl rfl hne hjl) ?_ rfl rfl (by kernel_rfl) (by kernel_rfl)
          refine D_take 4 rfl (T_fap rfl rfl rfl rfl rfl hne) ?_ rfl rfl (by kernel_rfl) (by kernel_rfl)
          refine D_take 5 rfl (T_ldr rfl rfl rfl (Srd.old h (fun k _ => noOwns k)) (by omega) hat0) ?_ rfl rfl (by kernel_rfl) (by kernel_rfl)
          refine D_take 6 rfl (pev_ok rfl) ?_ rfl rfl (by kernel_rfl) (by kernel_rfl)
          refine D_take 7 rfl (T_load rfl rfl rfl rfl) ?_ rfl rfl (by kernel_rfl) (by kernel_rfl)
          refine D_take 8 rfl (pev_ok rfl) ?_ rfl rfl (by kernel_rfl) (by kernel_rfl)
          refine D_take 9 rfl (T_ixM (sz := 3) (q := j) rfl rfl rfl rfl rfl rfl hmb hjm) ?_ rfl rfl (by kernel_rfl) (by kernel_rfl)
          refine D_take 10 rfl (T_fap rfl rfl rfl rfl rfl hmb) ?_ rfl rfl (by kernel_rfl) (by kernel_rfl)
          refine D_take 11 rfl (T_ldr rfl rfl rfl (Srd.old k1 (fun k _ => noOwns k)) (by omega) hau0) ?_ rfl rfl (by kernel_rfl) (by kernel_rfl)
          refine D_take 12 rfl (T_decT rfl (by omega)) ?_ rfl rfl (by kernel_rfl) (by kernel_rfl)
          refine D_take 13 rfl (pev_ok rfl) ?_ rfl rfl (by kernel_rfl) (by kernel_rfl)
          refine D_skip 14 rfl ?_ rfl rfl (by kernel_rfl) (by kernel_rfl)
          refine D_skip 15 rfl ?_ rfl rfl (by kernel_rfl) (by kernel_rfl)
          refine D_skip 16 rfl ?_ rfl rfl (by kernel_rfl) (by kernel_rfl)
          refine D_skip 17 rfl ?_ rfl rfl (by kernel_rfl) (by kernel_rfl)
          refine D_skip 18 rfl ?_ rfl rfl (by kernel_rfl) (by kernel_rfl)
          refine D_skip 19 rfl ?_ rfl rfl (by kernel_rfl) (by kernel_rfl)
          refine D_skip 20 rfl ?_ rfl rfl (by kernel_rfl) (by kernel_rfl)
          refine D_skip 21 rfl ?_ rfl rfl (by kernel_rfl) (by kernel_rfl)
          refine D_skip 22 rfl ?_ rfl rfl (by kernel_rfl) (by kernel_rfl)
          refine D_skip 23 rfl ?_ rfl rfl (by kernel_rfl) (by kernel_rfl)
          refine D_skip 24 rfl ?_ rfl rfl (by kernel_rfl) (by kernel_rfl)
          refine D_skip 25 rfl ?_ rfl rfl (by kernel_rfl) (by kernel_rfl)
          refine D_skip 26 rfl ?_ rfl rfl (by kernel_rfl) (by kernel_rfl)
          refine D_take 27 rfl (pev_ok rfl) ?_ rfl rfl (by kernel_rfl) (by kernel_rfl)
          refine D_take 28 rfl (pev_ok rfl) ?_ rfl rfl (by kernel_rfl) (by kernel_rfl)
          refine D_skip 29 rfl ?_ rfl rfl (by kernel_rfl) (by kernel_rfl)
          refine D_skip 30 rfl ?_ rfl rfl (by kernel_rfl) (by kernel_rfl)
          refine D_skip 31 rfl ?_ rfl rfl (by kernel_rfl) (by kernel_rfl)
          refine D_skip 32 rfl ?_ rfl rfl (by kernel_rfl) (by kernel_rfl)
          refine D_skip 33 rfl ?_ rfl rfl (by kernel_rfl) (by kernel_rfl)
          refine D_skip 34 rfl ?_ rfl rfl (by kernel_rfl) (by kernel_rfl)
          refine D_skip 35 rfl ?_ rfl rfl (by kernel_rfl) (by kernel_rfl)
          refine D_skip 36 rfl ?_ rfl rfl (by kernel_rfl) (by kernel_rfl)
          refine D_skip 37 rfl ?_ rfl rfl (by kernel_rfl) (by kernel_rfl)
          refine D_skip 38 rfl ?_ rfl rfl (by kernel_rfl) (by kernel_rfl)
          refine D_skip 39 rfl ?_ rfl rfl (by kernel_rfl) (by kernel_rfl)
          refine D_skip 40 rfl ?_ rfl rfl (by kernel_rfl) (by kernel_rfl)
          refine D_skip 41 rfl ?_ rfl rfl (by kernel_rfl) (by kernel_rfl)
          refine D_skip 42 rfl ?_ rfl rfl (by kernel_rfl) (by kernel_rfl)
          refine D_take 43 rfl (pev_ok rfl) ?_ rfl rfl (by kernel_rfl) (by kernel_rfl)
          refine D_done ?_ (by kernel_rfl)
          skip
          focus (refine S_true rfl rfl ?_; refine S_seq rfl ?_; refine S_region rfl rfl ?_; refine R_p rfl ?_ rfl rfl; refine R_nil ?_)
          exact hB _ _ _ _ _ rfl rfl fun w' hS => ⟨(), rfl, trivial, hS.sublist (List.nil_sublist _)⟩
      have hWV : W = V := eq_upto (by omega) (fun i hi => hok i (by omega))
      rw [decide_eq_true hWV, Bool.true_and] at hr
      focus (refine S_seq rfl ?_; refine S_seq rfl ?_; refine S_region rfl rfl ?_; refine R_p rfl ?_ rfl rfl; refine R_p rfl ?_ rfl rfl; refine R_take (T_load rfl rfl rfl rfl) ?_ rfl rfl; refine R_p rfl ?_ rfl rfl; refine R_take (T_decF rfl (by omega)) ?_ rfl rfl; refine R_nil ?_; refine S_false rfl rfl ?_; refine S_exit rfl rfl ?_; refine S_seq rfl ?_; refine S_seq rfl ?_; refine S_region rfl rfl ?_; refine R_p rfl ?_ rfl rfl; refine R_nil ?_; refine S_block rfl ?_)
      refine S_loop (X := Nat) (fun j => [(2, .pointer (some ⟨b2, 0, none⟩)), (3, .pointer (some ⟨b3, 0, none⟩)), (6, .int .i64 (j : Int))]) (fun _ => [pt b2 25 (ntc A n c A2 n2 c2'), pt b3 25 (ntc B1 m d B2 m2 d2)]) (fun j => j ≤ n2 ∧ ∀ i, i < j → C.getD i default = D.getD i default) (fun j => n2 - j) rfl 0 ⟨Nat.zero_le _, fun i hi => absurd hi (Nat.not_lt_zero _)⟩ (Sub.cons rfl (Sub.cons rfl (Sub.cons rfl Sub.nil))) sub_st ?_
      clear hok hJ hjl hj
      rintro i ⟨hi, hok⟩ J2 hJ2
      rcases Nat.lt_or_ge i n2 with hil | hil
      · have hne2 := hne2 (by omega)
        have hmb2 := hmb2 (by omega)
        have him : i < m2 := by omega
        have hat := cellsL_at (f := ctc) ctc_len C default i (by omega)
        have hau := cellsL_at (f := ctc) ctc_len D default i (by omega)
        have hnx : C.getD i default = D.getD i default → ∀ q, q < i + 1 → C.getD q default = D.getD q default := fun e q hq => by
          rcases Nat.lt_or_ge q i with h3 | h3
          · exact hok q h3
          · rw [show q = i by omega]; exact e
        have hno : C.getD i default ≠ D.getD i default → decide (C = D) = false := fun e => decide_eq_false fun e2 => e (by rw [e2])
        generalize C.getD i default = x at hat hnx hno
        generalize D.getD i default = y at hau hnx hno
        obtain ⟨xy, hxy⟩ : ∃ q, decide (x = y) = q := ⟨_, rfl⟩
        focus (refine S_seq rfl ?_; refine S_seq rfl ?_; refine S_region rfl rfl ?_; refine R_p rfl ?_ rfl rfl; refine R_p rfl ?_ rfl rfl; refine R_take (T_load rfl rfl rfl rfl) ?_ rfl rfl; refine R_p rfl ?_ rfl rfl; refine R_take (T_decT rfl (by omega)) ?_ rfl rfl; refine R_nil ?_; refine S_true rfl rfl ?_; refine S_skip rfl ?_; refine S_seq rfl ?_; refine S_block rfl ?_; refine S_seq rfl ?_; (refine S_draw _ (fun _ h => h) (by kernel_rfl) rfl (by kernel_rfl) (rfl : _ = 11) ?_; (refine D_take 0 rfl (pev_ok rfl) ?_ rfl rfl (by kernel_rfl) (by kernel_rfl)); (refine D_take 1 rfl (T_load rfl rfl rfl rfl) ?_ rfl rfl (by kernel_rfl) (by kernel_rfl)); (refine D_take 2 rfl (pev_ok rfl) ?_ rfl rfl (by kernel_rfl) (by kernel_rfl)); (refine D_take 3 rfl (T_ixM (sz := 2) (q := i) rfl rfl rfl rfl rfl rfl hne2 hil) ?_ rfl rfl (by kernel_rfl) (by kernel_rfl)); (refine D_take 4 rfl (T_lda (ds := ctc x) rfl rfl rfl (Srd.old h2 (fun k _ => noOwns k)) rfl (by omega) hat) ?_ rfl rfl (by kernel_rfl) (by kernel_rfl)); (refine D_take 5 rfl (pev_ok rfl) ?_ rfl rfl (by kernel_rfl) (by kernel_rfl)); (refine D_take 6 rfl (T_load rfl rfl rfl rfl) ?_ rfl rfl (by kernel_rfl) (by kernel_rfl)); (refine D_take 7 rfl (pev_ok rfl) ?_ rfl rfl (by kernel_rfl) (by kernel_rfl)); (refine D_take 8 rfl (T_ixM (sz := 2) (q := i) rfl rfl rfl rfl rfl rfl hmb2 him) ?_ rfl rfl (by kernel_rfl) (by kernel_rfl)); (refine D_take 9 rfl (T_lda (ds := ctc y) rfl rfl rfl (Srd.old k2 (fun k _ => noOwns k)) rfl (by omega) hau) ?_ rfl rfl (by kernel_rfl) (by kernel_rfl)); (refine D_take 10 rfl (T_neCt (a := x) (b := y) rfl rfl hxy) ?_ rfl rfl (by kernel_rfl) (by kernel_rfl)); refine D_done ?_ (by kernel_rfl)))
        cases xy
        · rw [hno (of_decide_eq_false hxy)] at hr
          subst hr
          focus (refine S_true rfl rfl ?_; refine S_seq rfl ?_; refine S_region rfl rfl ?_; refine R_p rfl ?_ rfl rfl; refine R_nil ?_)
          exact hB _ _ _ _ _ rfl rfl fun w' hS => ⟨(), rfl, trivial, hS.sublist (List.nil_sublist _)⟩
        · focus (refine S_false rfl rfl ?_; refine S_skip rfl ?_; refine RS_blk ?_; refine S_region rfl rfl ?_; refine R_p rfl ?_ rfl rfl; refine R_take (T_addN rfl rfl (by unfold fits; omega)) ?_ rfl rfl; refine R_p rfl ?_ rfl rfl; refine R_nil ?_)
          exact hJ2 (i + 1) _ _ ⟨by omega, hnx (of_decide_eq_true hxy)⟩ (Sub.cons rfl (Sub.cons rfl (Sub.cons rfl Sub.nil))) sub_st (by omega)
      have hCD : C = D := eq_upto (by omega) (fun q hq => hok q (by omega))
      rw [decide_eq_true hCD] at hr
      subst hr
      focus (refine S_seq rfl ?_; refine S_seq rfl ?_; refine S_region rfl rfl ?_; refine R_p rfl ?_ rfl rfl; refine R_p rfl ?_ rfl rfl; refine R_take (T_load rfl rfl rfl rfl) ?_ rfl rfl; refine R_p rfl ?_ rfl rfl; refine R_take (T_decF rfl (by omega)) ?_ rfl rfl; refine R_nil ?_; refine S_false rfl rfl ?_; refine S_exit rfl rfl ?_; refine S_seq rfl ?_; refine S_region rfl rfl ?_; refine R_p rfl ?_ rfl rfl; refine R_nil ?_)
      exact hB _ _ _ _ _ rfl rfl fun w' hS => ⟨(), rfl, trivial, hS.sublist (List.nil_sublist _)⟩
    · have e2 : decide (C = D) = false := decide_eq_false (fun e => hnm2 (by rw [← hk2, e, hm2]))
      rw [e2, Bool.and_false] at hr
      subst hr
      focus (refine S_seq rfl ?_; refine S_region rfl rfl ?_; (refine R_eff (E_boxa (cs := ntc A n c A2 n2 c2') rfl) ?_ rfl rfl; rintro _ _ ⟨b2, rfl, rfl⟩); (refine R_eff (E_boxa (cs := ntc B1 m d B2 m2 d2) rfl) ?_ rfl rfl; rintro _ _ ⟨b3, rfl, rfl⟩); refine R_p rfl ?_ rfl rfl; refine R_nil ?_; refine S_seq rfl ?_; refine S_seq rfl ?_; refine S_region rfl rfl ?_; refine R_p rfl ?_ rfl rfl; refine R_take (T_load rfl rfl rfl rfl) ?_ rfl rfl; refine R_p rfl ?_ rfl rfl; refine R_p rfl ?_ rfl rfl; refine R_take (T_load rfl rfl rfl rfl) ?_ rfl rfl; refine R_p rfl ?_ rfl rfl; refine R_take (T_decF rfl (by omega)) ?_ rfl rfl; refine R_p rfl ?_ rfl rfl; refine R_p rfl ?_ rfl rfl; refine R_take (T_load rfl rfl rfl rfl) ?_ rfl rfl; refine R_p rfl ?_ rfl rfl; refine R_p rfl ?_ rfl rfl; refine R_take (T_load rfl rfl rfl rfl) ?_ rfl rfl; refine R_p rfl ?_ rfl rfl; refine R_take (T_decT rfl (by omega)) ?_ rfl rfl; refine R_p rfl ?_ rfl rfl; refine R_nil ?_; refine S_true rfl rfl ?_; refine S_seq rfl ?_; refine S_region rfl rfl ?_; refine R_p rfl ?_ rfl rfl; refine R_nil ?_)
      exact hB _ _ _ _ _ rfl rfl fun w' hS => ⟨(), rfl, trivial, hS.sublist (List.nil_sublist _)⟩
  · have e2 : decide (W = V) = false := decide_eq_false (fun e => hnm (by rw [← hWn, e, hVm]))
    rw [e2, Bool.false_and] at hr
    subst hr
    focus (refine S_seq rfl ?_; refine S_region rfl rfl ?_; (refine R_eff (E_boxa (cs := ntc A n c A2 n2 c2') rfl) ?_ rfl rfl; rintro _ _ ⟨b2, rfl, rfl⟩); (refine R_eff (E_boxa (cs := ntc B1 m d B2 m2 d2) rfl) ?_ rfl rfl; rintro _ _ ⟨b3, rfl, rfl⟩); refine R_p rfl ?_ rfl rfl; refine R_nil ?_; refine S_seq rfl ?_; refine S_seq rfl ?_; refine S_region rfl rfl ?_; refine R_p rfl ?_ rfl rfl; refine R_take (T_load rfl rfl rfl rfl) ?_ rfl rfl; refine R_p rfl ?_ rfl rfl; refine R_p rfl ?_ rfl rfl; refine R_take (T_load rfl rfl rfl rfl) ?_ rfl rfl; refine R_p rfl ?_ rfl rfl; refine R_take (T_decT rfl (by omega)) ?_ rfl rfl; refine R_p rfl ?_ rfl rfl; refine R_skip ?_ rfl rfl; refine R_skip ?_ rfl rfl; refine R_skip ?_ rfl rfl; refine R_skip ?_ rfl rfl; refine R_skip ?_ rfl rfl; refine R_skip ?_ rfl rfl; refine R_skip ?_ rfl rfl; refine R_p rfl ?_ rfl rfl; refine R_nil ?_; refine S_true rfl rfl ?_; refine S_seq rfl ?_; refine S_region rfl rfl ?_; refine R_p rfl ?_ rfl rfl; refine R_nil ?_)
    exact hB _ _ _ _ _ rfl rfl fun w' hS => ⟨(), rfl, trivial, hS.sublist (List.nil_sublist _)⟩
end Go.Proofs.Ytclmaoagdkhboaa
