/- Nets: none, large; copies; parted. -/
import Derived.Test.YtclmaoagdkhboaaNt4
namespace Go.Proofs.Ytclmaoagdkhboaa
open Go.RowKit
open Asn (pt row rb)
set_option linter.unusedVariables false
set_option linter.unusedSimpArgs false
--@use N

/-- packets that say W, their bytes within their rooms -/
def ShP (W : List Pn) : Type := {P : List Pk // P.map pkv = W ∧ ∀ m ∈ P, m.2.2.2.2.length ≤ m.2.2.2.1}
theorem ct_ones (C : List Ct) : ∀ v ∈ cellsL ctc C, v.oneCell' = true := fun v hv => by
  obtain ⟨c, _, hc⟩ := List.mem_flatMap.1 hv
  exact ctc_one c v hc
theorem pk_ones (C : List Pk) : ∀ v ∈ cellsL pkc C, v.oneCell' = true := fun v hv => by
  obtain ⟨c, _, hc⟩ := List.mem_flatMap.1 hv
  exact pkc_one c v hc
theorem rd_none3 {w : World} : Rd w All 3 none 0 (cellsL pkc []) := ⟨rfl, fun h => absurd h (Nat.lt_irrefl 0)⟩
theorem rd_none2 {w : World} : Rd w All 2 none 0 (cellsL ctc []) := ⟨rfl, fun h => absurd h (Nat.lt_irrefl 0)⟩
set_option maxRecDepth 100000 in
set_option maxHeartbeats 4000000 in
theorem bclone_any (w : World) (A : Option Addr) (n c : Nat) (xs : List Value) (h : Rd w All 1 A n xs) (h1 : ∀ v ∈ xs, v.oneCell' = true) (hn : n ≤ 100000) :
    Gives Try.prog 38 [.slice A n c] [] w (X := Option Addr × Nat) (fun x => .slice x.1 n x.2) (fun _ => True) (fun x => [row 5 1 x.1 n x.2 xs]) := by
  refine gives_S Try.func38 rfl Try.ntmps38 Try.results38 (by simp) (St.enter w) (fun B hB => ?_)
  cases hA : A with
  | none =>
    subst hA
    have hn0 : n = 0 := by
      rcases Nat.eq_zero_or_pos n with h0 | h0
      · exact h0
      · obtain ⟨ad, e, _⟩ := h.2 h0
        cases e
    subst hn0
    obtain rfl : xs = [] := List.eq_nil_of_length_eq_zero (by simpa using h.1)
    focus (refine S_seq rfl ?_; refine S_region rfl rfl ?_; refine R_p rfl ?_ rfl rfl; refine R_nil ?_; refine S_seq rfl ?_; refine S_seq rfl ?_; refine S_region rfl rfl ?_; refine R_p rfl ?_ rfl rfl; refine R_take (T_eqnil rfl rfl rfl rfl) ?_ rfl rfl; refine R_nil ?_; refine S_true rfl rfl ?_; refine S_seq rfl ?_; refine S_region rfl rfl ?_; refine R_p rfl ?_ rfl rfl; refine R_nil ?_)
    all_goals (try (exfalso; simp_all; done))
    refine hB _ _ _ _ _ rfl rfl fun w' hS => ⟨(none, 0), rfl, trivial, (hS.sublist (List.nil_sublist _)).nilrow _ _⟩
  | some ad =>
    subst hA
    focus (refine S_seq rfl ?_; refine S_region rfl rfl ?_; refine R_p rfl ?_ rfl rfl; refine R_nil ?_; refine S_seq rfl ?_; refine S_seq rfl ?_; refine S_region rfl rfl ?_; refine R_p rfl ?_ rfl rfl; refine R_take (T_eqnil rfl rfl rfl rfl) ?_ rfl rfl; refine R_nil ?_; refine S_false rfl rfl ?_; refine S_skip rfl ?_; refine S_seq rfl ?_; refine S_region rfl rfl ?_; (refine R_eff (E_lit1 (m := 0) (vs := []) rfl rfl rfl rfl rfl rfl rfl (by simp) (by decide)) ?_ rfl rfl; rintro _ _ ⟨bl, rfl, rfl⟩); refine R_p rfl ?_ rfl rfl; (refine R_eff (E_apple rfl rfl rfl rfl rfl rfl rfl (by decide) .here (Srd.old h (fun k _ => noOwns k)) h1 (by show n * 1 ≤ _; omega) (by unfold maxLen; omega)) ?_ rfl rfl; rintro _ _ ⟨A', c', rfl, rfl⟩); refine R_p rfl ?_ rfl rfl; refine R_nil ?_)
    all_goals (try (exfalso; simp_all; done))
    refine hB _ _ _ _ _ rfl rfl fun w' hS => ⟨(A', c'), rfl, trivial, hS⟩
set_option maxRecDepth 100000 in
set_option maxHeartbeats 4000000 in
theorem cclone_any (w : World) (A : Option Addr) (n c : Nat) (xs : List Value) (h : Rd w All 2 A n xs) (h1 : ∀ v ∈ xs, v.oneCell' = true) (hn : n ≤ 1000) :
    Gives Try.prog 67 [.slice A n c] [] w (X := Option Addr × Nat) (fun x => .slice x.1 n x.2) (fun _ => True) (fun x => [row 73 2 x.1 n x.2 xs]) := by
  refine gives_S Try.func67 rfl Try.ntmps67 Try.results67 (by simp) (St.enter w) (fun B hB => ?_)
  cases hA : A with
  | none =>
    subst hA
    have hn0 : n = 0 := by
      rcases Nat.eq_zero_or_pos n with h0 | h0
      · exact h0
      · obtain ⟨ad, e, _⟩ := h.2 h0
        cases e
    subst hn0
    obtain rfl : xs = [] := List.eq_nil_of_length_eq_zero (by simpa using h.1)
    focus (refine S_seq rfl ?_; refine S_region rfl rfl ?_; refine R_p rfl ?_ rfl rfl; refine R_nil ?_; refine S_seq rfl ?_; refine S_seq rfl ?_; refine S_region rfl rfl ?_; refine R_p rfl ?_ rfl rfl; refine R_take (T_eqnil rfl rfl rfl rfl) ?_ rfl rfl; refine R_nil ?_; refine S_true rfl rfl ?_; refine S_seq rfl ?_; refine S_region rfl rfl ?_; refine R_p rfl ?_ rfl rfl; refine R_nil ?_)
    all_goals (try (exfalso; simp_all; done))
    refine hB _ _ _ _ _ rfl rfl fun w' hS => ⟨(none, 0), rfl, trivial, (hS.sublist (List.nil_sublist _)).nilrow _ _⟩
  | some ad =>
    subst hA
    focus (refine S_seq rfl ?_; refine S_region rfl rfl ?_; refine R_p rfl ?_ rfl rfl; refine R_nil ?_; refine S_seq rfl ?_; refine S_seq rfl ?_; refine S_region rfl rfl ?_; refine R_p rfl ?_ rfl rfl; refine R_take (T_eqnil rfl rfl rfl rfl) ?_ rfl rfl; refine R_nil ?_; refine S_false rfl rfl ?_; refine S_skip rfl ?_; refine S_seq rfl ?_; refine S_region rfl rfl ?_; (refine R_eff (E_litS (vs := []) (size := 2) (ds := []) rfl rfl rfl rfl rfl rfl (by simp) rfl (by omega)) ?_ rfl rfl; rintro _ _ ⟨bl, rfl, rfl⟩); refine R_p rfl ?_ rfl rfl; (refine R_eff (E_apple (sz := 2) rfl rfl rfl rfl rfl rfl rfl (by decide) .here (Srd.old h (fun k _ => noOwns k)) h1 (by show n * 16 ≤ _; omega) (by unfold maxLen; omega)) ?_ rfl rfl; rintro _ _ ⟨A', c', rfl, rfl⟩); refine R_p rfl ?_ rfl rfl; refine R_nil ?_)
    all_goals (try (exfalso; simp_all; done))
    refine hB _ _ _ _ _ rfl rfl fun w' hS => ⟨(A', c'), rfl, trivial, hS⟩
set_option maxRecDepth 100000 in
set_option maxHeartbeats 4000000 in
theorem none_k (w : World) (A : Option Addr) (c n : Nat) (P : List Pk) (W : List Pn) (hk : P.length = n) (hW : P.map pkv = W) (h : Rd w All 3 A n (cellsL pkc P)) (A2 : Option Addr) (c2' n2 : Nat) (C : List Ct) (hk2 : C.length = n2) (h2 : Rd w All 2 A2 n2 (cellsL ctc C)) (hp : ∀ m ∈ P, BsP w m) (hn : n ≤ 1000) (hn2 : n2 ≤ 1000) (r : Bool) (hr : (decide (W = []) && decide (C = [])) = r) :
    Gives Try.prog 15 [.agg (ntc A n c A2 n2 c2').toArray] [] w (X := Unit) (fun _ => .bool r) (fun _ => True) (fun _ => []) := by
  refine gives_S Try.func15 rfl Try.ntmps15 Try.results15 (by simp) (St.enter w) (fun B hB => ?_)
  focus (refine S_seq rfl ?_; refine S_region rfl rfl ?_; (refine R_eff (E_boxa (cs := ntc A n c A2 n2 c2') rfl) ?_ rfl rfl; rintro _ _ ⟨b1, rfl, rfl⟩); refine R_p rfl ?_ rfl rfl; refine R_nil ?_; refine S_seq rfl ?_; refine S_region rfl rfl ?_; refine R_take (T_loads (ds := ntc A n c A2 n2 c2') rfl rfl rfl rfl rfl) ?_ rfl rfl; refine R_take (T_build0 nt_built0) ?_ rfl rfl; (refine R_eff (E_hv0 (f := 19) ⟨_, Try.func19, rfl, by kernel_rfl⟩ (fun w hS => sameD_k w A c n P W hk hW ((Srd.old h (fun k _ => noOwns k)).rd w hS) A2 c2' n2 C hk2 ((Srd.old h2 (fun k _ => noOwns k)).rd w hS) none 0 0 [] [] rfl rfl rd_none3 none 0 0 [] rfl rd_none2 (fun x hx => (Src.old (hp x hx) (fun k _ => noOwns k)).bs w hS) (fun m hm => absurd hm (by simp)) hn hn2 (by omega) (by omega) r hr) rfl rfl (fun _ => rfl)) ?_ rfl rfl; rintro _ _ ⟨_, rfl, _, rfl⟩); refine R_p rfl ?_ rfl rfl; refine R_nil ?_)
  exact hB _ _ _ _ _ rfl rfl fun w' hS => ⟨(), rfl, trivial, hS.sublist (List.nil_sublist _)⟩
set_option maxRecDepth 100000 in
set_option maxHeartbeats 4000000 in
theorem large_any (w : World) (A : Option Addr) (c n : Nat) (P : List Pk) (W : List Pn) (hk : P.length = n) (hW : P.map pkv = W) (h : Rd w All 3 A n (cellsL pkc P)) (A2 : Option Addr) (c2' n2 : Nat) (C : List Ct) (hk2 : C.length = n2) (h2 : Rd w All 2 A2 n2 (cellsL ctc C)) (hnl : n ≤ maxLen) (hnl2 : n2 ≤ maxLen) :
    Gives Try.prog 9 [.agg (ntc A n c A2 n2 c2').toArray] [] w (X := Bool) (fun x => .bool x) (fun x => x = false → n ≤ 200 ∧ n2 ≤ 200 ∧ ∀ m ∈ P, m.2.2.2.2.length ≤ 1000) (fun _ => []) := by
  refine gives_S Try.func9 rfl Try.ntmps9 Try.results9 (by simp) (St.enter w) (fun B hB => ?_)
  unfold maxLen at hnl hnl2
  have hne : 0 < n → A ≠ none := fun h0 => by obtain ⟨ad, rfl, _⟩ := h.2 (by omega); simp
  by_cases h1 : 200 < n
  · focus (refine S_seq rfl ?_; refine S_region rfl rfl ?_; (refine R_eff (E_boxa (cs := ntc A n c A2 n2 c2') rfl) ?_ rfl rfl; rintro _ _ ⟨b1, rfl, rfl⟩); refine R_p rfl ?_ rfl rfl; refine R_nil ?_; refine S_seq rfl ?_; refine S_seq rfl ?_; refine S_region rfl rfl ?_; refine R_p rfl ?_ rfl rfl; refine R_take (T_load rfl rfl rfl rfl) ?_ rfl rfl; refine R_p rfl ?_ rfl rfl; refine R_take (T_decT rfl (by omega)) ?_ rfl rfl; refine R_p rfl ?_ rfl rfl; refine R_skip ?_ rfl rfl; refine R_skip ?_ rfl rfl; refine R_skip ?_ rfl rfl; refine R_skip ?_ rfl rfl; refine R_p rfl ?_ rfl rfl; refine R_nil ?_; refine S_true rfl rfl ?_; refine S_seq rfl ?_; refine S_region rfl rfl ?_; refine R_p rfl ?_ rfl rfl; refine R_nil ?_)
    exact hB _ _ _ _ _ rfl rfl fun w' hS => ⟨true, rfl, fun e => (by cases e), hS.sublist (List.nil_sublist _)⟩
  by_cases h3 : 200 < n2
  · focus (refine S_seq rfl ?_; refine S_region rfl rfl ?_; (refine R_eff (E_boxa (cs := ntc A n c A2 n2 c2') rfl) ?_ rfl rfl; rintro _ _ ⟨b1, rfl, rfl⟩); refine R_p rfl ?_ rfl rfl; refine R_nil ?_; refine S_seq rfl ?_; refine S_seq rfl ?_; refine S_region rfl rfl ?_; refine R_p rfl ?_ rfl rfl; refine R_take (T_load rfl rfl rfl rfl) ?_ rfl rfl; refine R_p rfl ?_ rfl rfl; refine R_take (T_decF rfl (by omega)) ?_ rfl rfl; refine R_p rfl ?_ rfl rfl; refine R_p rfl ?_ rfl rfl; refine R_take (T_load rfl rfl rfl rfl) ?_ rfl rfl; refine R_p rfl ?_ rfl rfl; refine R_take (T_decT rfl (by omega)) ?_ rfl rfl; refine R_p rfl ?_ rfl rfl; refine R_nil ?_; refine S_true rfl rfl ?_; refine S_seq rfl ?_; refine S_region rfl rfl ?_; refine R_p rfl ?_ rfl rfl; refine R_nil ?_)
    exact hB _ _ _ _ _ rfl rfl fun w' hS => ⟨true, rfl, fun e => (by cases e), hS.sublist (List.nil_sublist _)⟩
  focus (refine S_seq rfl ?_; refine S_region rfl rfl ?_; (refine R_eff (E_boxa (cs := ntc A n c A2 n2 c2') rfl) ?_ rfl rfl; rintro _ _ ⟨b1, rfl, rfl⟩); refine R_p rfl ?_ rfl rfl; refine R_nil ?_; refine S_seq rfl ?_; refine S_seq rfl ?_; refine S_region rfl rfl ?_; refine R_p rfl ?_ rfl rfl; refine R_take (T_load rfl rfl rfl rfl) ?_ rfl rfl; refine R_p rfl ?_ rfl rfl; refine R_take (T_decF rfl (by omega)) ?_ rfl rfl; refine R_p rfl ?_ rfl rfl; refine R_p rfl ?_ rfl rfl; refine R_take (T_load rfl rfl rfl rfl) ?_ rfl rfl; refine R_p rfl ?_ rfl rfl; refine R_take (T_decF rfl (by omega)) ?_ rfl rfl; refine R_p rfl ?_ rfl rfl; refine R_nil ?_; refine S_false rfl rfl ?_; refine S_skip rfl ?_; refine S_seq rfl ?_; refine S_seq rfl ?_; refine S_region rfl rfl ?_; refine R_p rfl ?_ rfl rfl; refine R_take (T_load rfl rfl rfl rfl) ?_ rfl rfl; refine R_p rfl ?_ rfl rfl; refine R_p rfl ?_ rfl rfl; refine R_nil ?_; refine S_block rfl ?_)
  refine S_loop (X := Nat) (fun j => [(1, .pointer (some ⟨b1, 0, none⟩)), (16, .slice A n c), (17, .int .i64 (n : Int)), (18, .int .i64 (j : Int))]) (fun _ => [pt b1 25 (ntc A n c A2 n2 c2')]) (fun j => j ≤ n ∧ ∀ i, i < j → (P.getD i default).2.2.2.2.length ≤ 1000) (fun j => n - j) rfl 0 ⟨Nat.zero_le _, fun i hi => absurd hi (Nat.not_lt_zero _)⟩ (Sub.cons rfl (Sub.cons rfl (Sub.cons rfl (Sub.cons rfl Sub.nil)))) sub_st ?_
  rintro j ⟨hj, hok⟩ J hJ
  rcases Nat.lt_or_ge j n with hjl | hjl
  · have hne := hne (by omega)
    have hat := cellsL_at (f := pkc) pkc_len P default j (by omega)
    obtain ⟨m, hm⟩ : ∃ m, P.getD j default = m := ⟨_, rfl⟩
    rw [hm] at hat
    obtain ⟨f, t, D, cd, bs⟩ := m
    by_cases h4 : 1000 < bs.length
    · focus (refine S_seq rfl ?_; refine S_region rfl rfl ?_; refine R_take (T_decT rfl (by omega)) ?_ rfl rfl; refine R_nil ?_; refine S_seq rfl ?_; refine S_true rfl rfl ?_; refine S_skip rfl ?_; refine S_seq rfl ?_; refine S_block rfl ?_; refine S_seq rfl ?_; refine S_region rfl rfl ?_; refine R_take (T_ixM (sz := 3) (q := j) rfl rfl rfl rfl rfl rfl hne hjl) ?_ rfl rfl; refine R_take (T_lda (ds := pkc (f, t, D, cd, bs)) rfl rfl rfl (Srd.old h (fun k _ => noOwns k)) rfl (by omega) hat) ?_ rfl rfl; (refine R_eff (E_alloca rfl pk_zero) ?_ rfl rfl; rintro _ _ ⟨b4, rfl, rfl⟩); (refine R_eff0 (E_storew (cs := pkc (0, 0, none, 0, [])) (ds := pkc (f, t, D, cd, bs)) rfl rfl rfl rfl (pkc_one _) rfl) ?_ rfl; rintro _ _ rfl); refine R_nil ?_; refine S_seq rfl ?_; refine S_region rfl rfl ?_; refine R_p rfl ?_ rfl rfl; refine R_take (T_load (v := .slice D bs.length cd) rfl rfl rfl rfl) ?_ rfl rfl; refine R_p rfl ?_ rfl rfl; refine R_take (T_decT rfl (by omega)) ?_ rfl rfl; refine R_nil ?_; refine S_true rfl rfl ?_; refine S_seq rfl ?_; refine S_region rfl rfl ?_; refine R_p rfl ?_ rfl rfl; refine R_nil ?_)
      exact hB _ _ _ _ _ rfl rfl fun w' hS => ⟨true, rfl, fun e => (by cases e), hS.sublist (List.nil_sublist _)⟩
    · focus (refine S_seq rfl ?_; refine S_region rfl rfl ?_; refine R_take (T_decT rfl (by omega)) ?_ rfl rfl; refine R_nil ?_; refine S_seq rfl ?_; refine S_true rfl rfl ?_; refine S_skip rfl ?_; refine S_seq rfl ?_; refine S_block rfl ?_; refine S_seq rfl ?_; refine S_region rfl rfl ?_; refine R_take (T_ixM (sz := 3) (q := j) rfl rfl rfl rfl rfl rfl hne hjl) ?_ rfl rfl; refine R_take (T_lda (ds := pkc (f, t, D, cd, bs)) rfl rfl rfl (Srd.old h (fun k _ => noOwns k)) rfl (by omega) hat) ?_ rfl rfl; (refine R_eff (E_alloca rfl pk_zero) ?_ rfl rfl; rintro _ _ ⟨b4, rfl, rfl⟩); (refine R_eff0 (E_storew (cs := pkc (0, 0, none, 0, [])) (ds := pkc (f, t, D, cd, bs)) rfl rfl rfl rfl (pkc_one _) rfl) ?_ rfl; rintro _ _ rfl); refine R_nil ?_; refine S_seq rfl ?_; refine S_region rfl rfl ?_; refine R_p rfl ?_ rfl rfl; refine R_take (T_load (v := .slice D bs.length cd) rfl rfl rfl rfl) ?_ rfl rfl; refine R_p rfl ?_ rfl rfl; refine R_take (T_decF rfl (by omega)) ?_ rfl rfl; refine R_nil ?_; refine S_false rfl rfl ?_; refine S_skip rfl ?_; refine RS_blk ?_; refine S_region rfl rfl ?_; refine R_take (T_addN rfl rfl (by unfold fits; omega)) ?_ rfl rfl; refine R_p rfl ?_ rfl rfl; refine R_nil ?_)
      refine hJ (j + 1) _ _ ⟨by omega, fun i hi => ?_⟩ (Sub.cons rfl (Sub.cons rfl (Sub.cons rfl (Sub.cons rfl Sub.nil)))) sub_st (by omega)
      rcases Nat.lt_or_ge i j with h5 | h5
      · exact hok i h5
      · rw [show i = j by omega, hm]
        show bs.length ≤ 1000
        omega
  · skip
    focus (refine S_seq rfl ?_; refine S_region rfl rfl ?_; refine R_take (T_decF rfl (by omega)) ?_ rfl rfl; refine R_nil ?_; refine S_seq rfl ?_; refine S_false rfl rfl ?_; refine S_exit rfl rfl ?_; refine S_seq rfl ?_; refine S_region rfl rfl ?_; refine R_p rfl ?_ rfl rfl; refine R_nil ?_)
    refine hB _ _ _ _ _ rfl rfl fun w' hS => ⟨false, rfl, fun _ => ⟨by omega, by omega, fun m hm => ?_⟩, hS.sublist (List.nil_sublist _)⟩
    obtain ⟨i, hi, rfl⟩ := List.getElem_of_mem hm
    have := hok i (by omega)
    simpa [List.getD, hi] using this
set_option maxRecDepth 100000 in
set_option maxHeartbeats 4000000 in
theorem copyN_any (w : World) (A : Option Addr) (c n : Nat) (P : List Pk) (W : List Pn) (hk : P.length = n) (hW : P.map pkv = W) (h : Rd w All 3 A n (cellsL pkc P)) (A2 : Option Addr) (c2' n2 : Nat) (C : List Ct) (hk2 : C.length = n2) (h2 : Rd w All 2 A2 n2 (cellsL ctc C)) (hn : n ≤ 1000) (hn2 : n2 ≤ 1000) (hd : RDt w All (P.map pkd)) (hkk : ∀ m ∈ P, m.2.2.2.2.length ≤ 100000) :
    Gives Try.prog 55 [.agg (ntc A n c A2 n2 c2').toArray] [] w (X := ((Option Addr × Nat) × ShP W) × (Option Addr × Nat)) (fun x => .agg (ntc x.1.1.1 n x.1.1.2 x.2.1 n2 x.2.2).toArray) (fun _ => True) (fun x => [row 30 3 x.1.1.1 n x.1.1.2 (cellsL pkc x.1.2.1), dtB 5 (x.1.2.1.map pkd), row 73 2 x.2.1 n2 x.2.2 (cellsL ctc C)]) := by
  refine gives_C Try.func55 rfl Try.ntmps55 Try.results55 (by simp) (St.enter w) (fun B hB => ?_)
  have hne : 0 < n → A ≠ none := fun h0 => by obtain ⟨ad, rfl, _⟩ := h.2 (by omega); simp
  have hWn : W.length = n := by rw [← hW, List.length_map, hk]
  focus (refine S_seq rfl ?_; refine S_region rfl rfl ?_; (refine R_eff (E_boxa (cs := ntc A n c A2 n2 c2') rfl) ?_ rfl rfl; rintro _ _ ⟨b1, rfl, rfl⟩); (refine R_eff (E_alloca rfl nt_zero) ?_ rfl rfl; rintro _ _ ⟨b2, rfl, rfl⟩); refine R_nil ?_; refine S_seq rfl ?_; refine S_region rfl rfl ?_; refine R_p rfl ?_ rfl rfl; refine R_take (T_load rfl rfl rfl rfl) ?_ rfl rfl)
  focus ((refine R_eff (E_hvG (f := 67) ⟨_, Try.func67, rfl, by kernel_rfl⟩ (fun w hS => cclone_any w A2 n2 c2' (cellsL ctc C) ((Srd.old h2 (fun k _ => noOwns k)).rd w hS) (ct_ones _) hn2) rfl rfl) ?_ rfl rfl; rintro _ _ ⟨⟨A6, c6⟩, rfl, _, rfl⟩; dsimp only [List.cons_append, List.nil_append]); refine R_take (T_build1 rfl (nt_builtC _ _ _)) ?_ rfl rfl; (refine R_eff (E_alloca rfl nt_zero) ?_ rfl rfl; rintro _ _ ⟨b3, rfl, rfl⟩); (refine R_eff0 (E_storew (cs := ntc none 0 0 none 0 0) (ds := ntc none 0 0 A6 n2 c6) rfl rfl rfl rfl (ntc_one _ _ _ _ _ _) rfl) ?_ rfl; rintro _ _ rfl); refine R_nil ?_; refine S_seq rfl ?_; refine S_seq rfl ?_; refine S_region rfl rfl ?_; refine R_p rfl ?_ rfl rfl; refine R_take (T_load rfl rfl rfl rfl) ?_ rfl rfl; refine R_p rfl ?_ rfl rfl; refine R_p rfl ?_ rfl rfl; refine R_nil ?_; refine S_block rfl ?_)
  refine S_loop (X := Nat × (Option Addr × Nat) × List Pk) (fun x => [(1, .pointer (some ⟨b1, 0, none⟩)), (2, .pointer (some ⟨b2, 0, none⟩)), (3, .pointer (some ⟨b3, 0, none⟩)), (11, .slice A n c), (12, .int .i64 (n : Int)), (13, .int .i64 (x.1 : Int))]) (fun x => [pt b1 25 (ntc A n c A2 n2 c2'), pt b2 25 (ntc none 0 0 none 0 0), pt b3 25 (ntc x.2.1.1 x.1 x.2.1.2 A6 n2 c6), row 30 3 x.2.1.1 x.1 x.2.1.2 (cellsL pkc x.2.2), dtB 5 (x.2.2.map pkd), row 73 2 A6 n2 c6 (cellsL ctc C)]) (fun x => x.1 ≤ n ∧ x.2.2.map pkv = W.take x.1) (fun x => n - x.1) rfl (0, (none, 0), []) ⟨Nat.zero_le _, rfl⟩ (Sub.cons rfl (Sub.cons rfl (Sub.cons rfl (Sub.cons rfl (Sub.cons rfl (Sub.cons rfl Sub.nil)))))) (fun w' hS => ?_) ?_
  · have h3 := (dtB_nil (e := 5) hS).nilrow 30 3
    exact sub_st (H' := [pt b1 25 (ntc A n c A2 n2 c2'), pt b2 25 (ntc none 0 0 none 0 0), pt b3 25 (ntc none 0 0 A6 n2 c6), row 30 3 none 0 0 [], dtB 5 [], row 73 2 A6 n2 c6 (cellsL ctc C)]) w' h3
  rintro ⟨j, ⟨A5, c5⟩, R⟩ ⟨hj, hR⟩ J hJ
  dsimp only at hj hR ⊢
  rcases Nat.lt_or_ge j n with hjl | hjl
  · have hne := hne (by omega)
    have hat := cellsL_at (f := pkc) pkc_len P default j (by omega)
    have hnx : W.take (j + 1) = W.take j ++ [pkv (P.getD j default)] := by
      rw [List.take_succ_eq_append_getElem (by omega)]
      congr 2
      subst hW
      simp [List.getD, show j < P.length by omega]
    have hmem : P.getD j default ∈ P := by simp [List.getD, show j < P.length by omega]
    generalize P.getD j default = m at hat hnx hmem
    have hkm := hkk m hmem
    have hd1 := hd (pkd m) (List.mem_map.2 ⟨m, hmem, rfl⟩)
    obtain ⟨f, t, D, cd, bs⟩ := m
    obtain ⟨q, hql⟩ : ∃ q, bs.length = q := ⟨_, rfl⟩
    have hkm : bs.length ≤ 100000 := hkm
    have hd1 : Rd w All 1 D bs.length (bs.map bv) := hd1
    have hat : ∀ e v, ([.int .i64 f, .int .i64 t, .slice D q cd] : List Value)[e]? = some v → (cellsL pkc P)[j * 3 + e]? = some v := by rw [← hql]; exact hat
    rw [hql] at hkm hd1
    focus (refine S_seq rfl ?_; refine S_region rfl rfl ?_; refine R_take (T_decT rfl (by omega)) ?_ rfl rfl; refine R_nil ?_; refine S_seq rfl ?_; refine S_true rfl rfl ?_; refine S_skip rfl ?_; refine S_seq rfl ?_; refine S_block rfl ?_; refine S_seq rfl ?_; refine S_region rfl rfl ?_; refine R_take (T_ixM (sz := 3) (q := j) rfl rfl rfl rfl rfl rfl hne hjl) ?_ rfl rfl; refine R_take (T_lda (ds := [.int .i64 f, .int .i64 t, .slice D q cd]) rfl rfl rfl (Srd.old h (fun k _ => noOwns k)) rfl (by omega) hat) ?_ rfl rfl; (refine R_eff (E_alloca rfl pk_zero) ?_ rfl rfl; rintro _ _ ⟨b5, rfl, rfl⟩); (refine R_eff0 (E_storew (cs := pkc (0, 0, none, 0, [])) (ds := [.int .i64 f, .int .i64 t, .slice D q cd]) rfl rfl rfl rfl (by simp [Value.oneCell']) rfl) ?_ rfl; rintro _ _ rfl); refine R_nil ?_; refine S_seq rfl ?_; refine S_region rfl rfl ?_; refine R_p rfl ?_ rfl rfl; refine R_take (T_load rfl rfl rfl rfl) ?_ rfl rfl; (refine R_eff (E_hvG (f := 38) ⟨_, Try.func38, rfl, by kernel_rfl⟩ (fun w hS => bclone_any w D q cd (bs.map bv) ((Srd.old hd1 (fun k _ => noOwns k)).rd w hS) (bv_ones _) hkm) rfl rfl) ?_ rfl rfl; rintro _ _ ⟨⟨A', c'⟩, rfl, _, rfl⟩; dsimp only [List.cons_append, List.nil_append]); refine R_p rfl ?_ rfl rfl; (refine R_eff0 (E_store1 rfl rfl rfl rfl rfl rfl (by first | (show _ < 3; omega) | (show _ < 2; omega))) ?_ rfl; rintro _ _ rfl); refine R_nil ?_; refine S_region rfl rfl ?_; refine R_p rfl ?_ rfl rfl; refine R_take (T_load rfl rfl rfl rfl) ?_ rfl rfl; refine R_take (T_loads (ds := [.int .i64 f, .int .i64 t, .slice A' q c']) rfl rfl rfl rfl rfl) ?_ rfl rfl; (refine R_eff (E_litS (vs := [.agg ([.int .i64 f, .int .i64 t, .slice A' q c']).toArray]) (size := 3) (ds := [.int .i64 f, .int .i64 t, .slice A' q c']) rfl rfl rfl rfl rfl rfl (by simp [vcells]) rfl (by omega)) ?_ rfl rfl; rintro _ _ ⟨vb, rfl, rfl⟩); (refine R_eff (E_appS (sz := 3) (m := j) (c := c5) (A := A5) rfl rfl rfl rfl rfl rfl rfl (by decide) (Srd.pt (n := 1) (g := vb) (ds := [.int .i64 f, .int .i64 t, .slice A' q c']) rfl (fun j u hj => by rw [Nat.zero_add]; exact hj)) (by simp [Value.oneCell']) (by show (j + 1) * 40 ≤ _; omega) (by unfold maxLen; omega)) ?_ rfl rfl; rintro _ _ ⟨A7, c7, rfl, rfl⟩); refine R_p rfl ?_ rfl rfl; (refine R_eff0 (E_store1 rfl rfl rfl rfl rfl rfl (by first | (show _ < 3; omega) | (show _ < 2; omega))) ?_ rfl; rintro _ _ rfl); refine R_nil ?_; refine RS_blk ?_; refine S_region rfl rfl ?_; refine R_take (T_addN rfl rfl (by unfold fits; omega)) ?_ rfl rfl; refine R_p rfl ?_ rfl rfl; refine R_nil ?_)
    refine hJ (j + 1, (A7, c7), R ++ [(f, t, A', c', bs)]) _ _ ⟨by show j + 1 ≤ _; omega, by dsimp only; rw [hnx, List.map_append, hR]; rfl⟩ (Sub.cons rfl (Sub.cons rfl (Sub.cons rfl (Sub.cons rfl (Sub.cons rfl (Sub.cons rfl Sub.nil)))))) (fun w' hS => ?_) (by show n - (j + 1) < _; omega)
    dsimp only
    have e1 : pkc (f, t, A', c', bs) = [.int .i64 f, .int .i64 t, .slice A' q c'] := by
      show [Value.int .i64 f, .int .i64 t, .slice A' bs.length c'] = _
      rw [hql]
    have h1 := sub_st (H' := [row 5 1 A' q c' (bs.map bv), dtB 5 (R.map pkd), row 30 3 A7 (j + 1) c7 (cellsL pkc R ++ [.int .i64 f, .int .i64 t, .slice A' q c']), pt b1 25 (ntc A n c A2 n2 c2'), pt b2 25 (ntc none 0 0 none 0 0), pt b3 25 ((ntc A5 j c5 A6 n2 c6).set (0 + 0) (.slice A7 (j + 1) c7)), row 73 2 A6 n2 c6 (cellsL ctc C)]) w' hS
    have h2 : St w (owns []) [dtA 5 (A', c', bs), dtB 5 (R.map pkd), row 30 3 A7 (j + 1) c7 (cellsL pkc R ++ [.int .i64 f, .int .i64 t, .slice A' q c']), pt b1 25 (ntc A n c A2 n2 c2'), pt b2 25 (ntc none 0 0 none 0 0), pt b3 25 (ntc A7 (j + 1) c7 A6 n2 c6), row 73 2 A6 n2 c6 (cellsL ctc C)] w' := by
      unfold dtA
      rw [hql]
      exact h1
    have h3 := dtB_put h2
    rw [cellsL_app, cellsL_one, e1, List.map_append]
    exact sub_st (H' := [pt b1 25 (ntc A n c A2 n2 c2'), pt b2 25 (ntc none 0 0 none 0 0), pt b3 25 (ntc A7 (j + 1) c7 A6 n2 c6), row 30 3 A7 (j + 1) c7 (cellsL pkc R ++ [.int .i64 f, .int .i64 t, .slice A' q c']), dtB 5 (R.map pkd ++ [(A', c', bs)]), row 73 2 A6 n2 c6 (cellsL ctc C)]) w' h3
  have hjq : n = j := by omega
  subst hjq
  rw [← hWn, List.take_length] at hR
  focus (refine S_seq rfl ?_; refine S_region rfl rfl ?_; refine R_take (T_decF rfl (by omega)) ?_ rfl rfl; refine R_nil ?_; refine S_seq rfl ?_; refine S_false rfl rfl ?_; refine S_exit rfl rfl ?_; refine S_seq rfl ?_; refine S_region rfl rfl ?_; refine R_take (T_loads (ds := ntc A5 n c5 A6 n2 c6) rfl rfl rfl rfl rfl) ?_ rfl rfl; (refine R_eff0 (E_storew (cs := ntc none 0 0 none 0 0) (ds := ntc A5 n c5 A6 n2 c6) rfl rfl rfl rfl (ntc_one _ _ _ _ _ _) rfl) ?_ rfl; rintro _ _ rfl); refine R_nil ?_)
  refine hB _ _ _ _ _ rfl (.cell rfl rfl rfl inferInstance rfl .nil) fun w' hS => ?_
  have hS := sub_st (H' := [row 30 3 A5 n c5 (cellsL pkc R), dtB 5 (R.map pkd), row 73 2 A6 n2 c6 (cellsL ctc C)]) w' hS
  exact ⟨(((A5, c5), ⟨R, hR, fun m hm => dtB_caps (e := 5) (D := R.map pkd) hS (by simp) (pkd m) (List.mem_map.2 ⟨m, hm, rfl⟩)⟩), (A6, c6)), rfl, trivial, hS⟩
set_option maxRecDepth 100000 in
set_option maxHeartbeats 4000000 in
theorem copyL_any (w : World) (A : Option Addr) (c n : Nat) (P : List Pk) (W : List Pn) (hk : P.length = n) (hW : P.map pkv = W) (h : Rd w All 3 A n (cellsL pkc P)) (A2 : Option Addr) (c2' n2 : Nat) (C : List Ct) (hk2 : C.length = n2) (h2 : Rd w All 2 A2 n2 (cellsL ctc C)) (hn : n ≤ 1000) (hn2 : n2 ≤ 1000) (hd : RDt w All (P.map pkd)) (hkk : ∀ m ∈ P, m.2.2.2.2.length ≤ 100000) :
    Gives Try.prog 11 [.agg (ntc A n c A2 n2 c2').toArray] [] w (X := ((Option Addr × Nat) × ShP W) × (Option Addr × Nat)) (fun x => .agg (ntc x.1.1.1 n x.1.1.2 x.2.1 n2 x.2.2).toArray) (fun _ => True) (fun x => [row 30 3 x.1.1.1 n x.1.1.2 (cellsL pkc x.1.2.1), dtB 5 (x.1.2.1.map pkd), row 73 2 x.2.1 n2 x.2.2 (cellsL ctc C)]) := by
  refine gives_C Try.func11 rfl Try.ntmps11 Try.results11 (by simp) (St.enter w) (fun B hB => ?_)
  have hne : 0 < n → A ≠ none := fun h0 => by obtain ⟨ad, rfl, _⟩ := h.2 (by omega); simp
  have hWn : W.length = n := by rw [← hW, List.length_map, hk]
  focus (refine S_seq rfl ?_; refine S_region rfl rfl ?_; (refine R_eff (E_boxa (cs := ntc A n c A2 n2 c2') rfl) ?_ rfl rfl; rintro _ _ ⟨b1, rfl, rfl⟩); (refine R_eff (E_alloca rfl nt_zero) ?_ rfl rfl; rintro _ _ ⟨b2, rfl, rfl⟩); refine R_nil ?_; refine S_seq rfl ?_; refine S_region rfl rfl ?_)
  focus ((refine R_eff (E_litS (vs := []) (size := 2) (ds := []) rfl rfl rfl rfl rfl rfl (by simp) rfl (by omega)) ?_ rfl rfl; rintro _ _ ⟨bl, rfl, rfl⟩); refine R_p rfl ?_ rfl rfl; refine R_take (T_load rfl rfl rfl rfl) ?_ rfl rfl; (refine R_eff (E_apple (sz := 2) (news := cellsL ctc C) rfl rfl rfl rfl rfl rfl rfl (by decide) .here (Srd.old h2 (fun k _ => noOwns k)) (ct_ones _) (by show n2 * 16 ≤ _; omega) (by unfold maxLen; omega)) ?_ rfl rfl; rintro _ _ ⟨A6, c6, rfl, rfl⟩); refine R_take (T_build1 rfl (nt_builtC _ _ _)) ?_ rfl rfl; (refine R_eff (E_alloca rfl nt_zero) ?_ rfl rfl; rintro _ _ ⟨b3, rfl, rfl⟩); (refine R_eff0 (E_storew (cs := ntc none 0 0 none 0 0) (ds := ntc none 0 0 A6 n2 c6) rfl rfl rfl rfl (ntc_one _ _ _ _ _ _) rfl) ?_ rfl; rintro _ _ rfl); refine R_nil ?_; refine S_seq rfl ?_; refine S_seq rfl ?_; refine S_region rfl rfl ?_; refine R_p rfl ?_ rfl rfl; refine R_take (T_load rfl rfl rfl rfl) ?_ rfl rfl; refine R_p rfl ?_ rfl rfl; refine R_p rfl ?_ rfl rfl; refine R_nil ?_; refine S_block rfl ?_)
  refine S_loop (X := Nat × (Option Addr × Nat) × List Pk) (fun x => [(1, .pointer (some ⟨b1, 0, none⟩)), (2, .pointer (some ⟨b2, 0, none⟩)), (3, .pointer (some ⟨b3, 0, none⟩)), (12, .slice A n c), (13, .int .i64 (n : Int)), (14, .int .i64 (x.1 : Int))]) (fun x => [pt b1 25 (ntc A n c A2 n2 c2'), pt b2 25 (ntc none 0 0 none 0 0), pt b3 25 (ntc x.2.1.1 x.1 x.2.1.2 A6 n2 c6), row 30 3 x.2.1.1 x.1 x.2.1.2 (cellsL pkc x.2.2), dtB 5 (x.2.2.map pkd), row 73 2 A6 n2 c6 (cellsL ctc C)]) (fun x => x.1 ≤ n ∧ x.2.2.map pkv = W.take x.1) (fun x => n - x.1) rfl (0, (none, 0), []) ⟨Nat.zero_le _, rfl⟩ (Sub.cons rfl (Sub.cons rfl (Sub.cons rfl (Sub.cons rfl (Sub.cons rfl (Sub.cons rfl Sub.nil)))))) (fun w' hS => ?_) ?_
  · have h3 := (dtB_nil (e := 5) hS).nilrow 30 3
    exact sub_st (H' := [pt b1 25 (ntc A n c A2 n2 c2'), pt b2 25 (ntc none 0 0 none 0 0), pt b3 25 (ntc none 0 0 A6 n2 c6), row 30 3 none 0 0 [], dtB 5 [], row 73 2 A6 n2 c6 (cellsL ctc C)]) w' h3
  rintro ⟨j, ⟨A5, c5⟩, R⟩ ⟨hj, hR⟩ J hJ
  dsimp only at hj hR ⊢
  rcases Nat.lt_or_ge j n with hjl | hjl
  · have hne := hne (by omega)
    have hat := cellsL_at (f := pkc) pkc_len P default j (by omega)
    have hnx : W.take (j + 1) = W.take j ++ [pkv (P.getD j default)] := by
      rw [List.take_succ_eq_append_getElem (by omega)]
      congr 2
      subst hW
      simp [List.getD, show j < P.length by omega]
    have hmem : P.getD j default ∈ P := by simp [List.getD, show j < P.length by omega]
    generalize P.getD j default = m at hat hnx hmem
    have hkm := hkk m hmem
    have hd1 := hd (pkd m) (List.mem_map.2 ⟨m, hmem, rfl⟩)
    obtain ⟨f, t, D, cd, bs⟩ := m
    obtain ⟨q, hql⟩ : ∃ q, bs.length = q := ⟨_, rfl⟩
    have hkm : bs.length ≤ 100000 := hkm
    have hd1 : Rd w All 1 D bs.length (bs.map bv) := hd1
    have hat : ∀ e v, ([.int .i64 f, .int .i64 t, .slice D q cd] : List Value)[e]? = some v → (cellsL pkc P)[j * 3 + e]? = some v := by rw [← hql]; exact hat
    rw [hql] at hkm hd1
    focus (refine S_seq rfl ?_; refine S_region rfl rfl ?_; refine R_take (T_decT rfl (by omega)) ?_ rfl rfl; refine R_nil ?_; refine S_seq rfl ?_; refine S_true rfl rfl ?_; refine S_skip rfl ?_; refine S_seq rfl ?_; refine S_block rfl ?_; refine S_seq rfl ?_; refine S_region rfl rfl ?_; refine R_take (T_ixM (sz := 3) (q := j) rfl rfl rfl rfl rfl rfl hne hjl) ?_ rfl rfl; refine R_take (T_lda (ds := [.int .i64 f, .int .i64 t, .slice D q cd]) rfl rfl rfl (Srd.old h (fun k _ => noOwns k)) rfl (by omega) hat) ?_ rfl rfl; (refine R_eff (E_alloca rfl pk_zero) ?_ rfl rfl; rintro _ _ ⟨b5, rfl, rfl⟩); (refine R_eff0 (E_storew (cs := pkc (0, 0, none, 0, [])) (ds := [.int .i64 f, .int .i64 t, .slice D q cd]) rfl rfl rfl rfl (by simp [Value.oneCell']) rfl) ?_ rfl; rintro _ _ rfl); refine R_nil ?_; refine S_seq rfl ?_; refine S_region rfl rfl ?_; (refine R_eff (E_lit1 (m := 0) (vs := []) rfl rfl rfl rfl rfl rfl rfl (by simp) (by decide)) ?_ rfl rfl; rintro _ _ ⟨bl, rfl, rfl⟩); refine R_p rfl ?_ rfl rfl; refine R_take (T_load rfl rfl rfl rfl) ?_ rfl rfl; (refine R_eff (E_apple (sz := 1) (news := bs.map bv) rfl rfl rfl rfl rfl rfl rfl (by decide) .here (Srd.old hd1 (fun k _ => noOwns k)) (bv_ones _) (by show q * 1 ≤ _; omega) (by unfold maxLen; omega)) ?_ rfl rfl; rintro _ _ ⟨A', c', rfl, rfl⟩); refine R_p rfl ?_ rfl rfl; (refine R_eff0 (E_store1 rfl rfl rfl rfl rfl rfl (by first | (show _ < 3; omega) | (show _ < 2; omega))) ?_ rfl; rintro _ _ rfl); refine R_nil ?_; refine S_region rfl rfl ?_; refine R_p rfl ?_ rfl rfl; refine R_take (T_load rfl rfl rfl rfl) ?_ rfl rfl; refine R_take (T_loads (ds := [.int .i64 f, .int .i64 t, .slice A' q c']) rfl rfl rfl rfl rfl) ?_ rfl rfl; (refine R_eff (E_litS (vs := [.agg ([.int .i64 f, .int .i64 t, .slice A' q c']).toArray]) (size := 3) (ds := [.int .i64 f, .int .i64 t, .slice A' q c']) rfl rfl rfl rfl rfl rfl (by simp [vcells]) rfl (by omega)) ?_ rfl rfl; rintro _ _ ⟨vb, rfl, rfl⟩); (refine R_eff (E_appS (sz := 3) (m := j) (c := c5) (A := A5) rfl rfl rfl rfl rfl rfl rfl (by decide) (Srd.pt (n := 1) (g := vb) (ds := [.int .i64 f, .int .i64 t, .slice A' q c']) rfl (fun j u hj => by rw [Nat.zero_add]; exact hj)) (by simp [Value.oneCell']) (by show (j + 1) * 40 ≤ _; omega) (by unfold maxLen; omega)) ?_ rfl rfl; rintro _ _ ⟨A7, c7, rfl, rfl⟩); refine R_p rfl ?_ rfl rfl; (refine R_eff0 (E_store1 rfl rfl rfl rfl rfl rfl (by first | (show _ < 3; omega) | (show _ < 2; omega))) ?_ rfl; rintro _ _ rfl); refine R_nil ?_; refine RS_blk ?_; refine S_region rfl rfl ?_; refine R_take (T_addN rfl rfl (by unfold fits; omega)) ?_ rfl rfl; refine R_p rfl ?_ rfl rfl; refine R_nil ?_)
    refine hJ (j + 1, (A7, c7), R ++ [(f, t, A', c', bs)]) _ _ ⟨by show j + 1 ≤ _; omega, by dsimp only; rw [hnx, List.map_append, hR]; rfl⟩ (Sub.cons rfl (Sub.cons rfl (Sub.cons rfl (Sub.cons rfl (Sub.cons rfl (Sub.cons rfl Sub.nil)))))) (fun w' hS => ?_) (by show n - (j + 1) < _; omega)
    dsimp only
    have e1 : pkc (f, t, A', c', bs) = [.int .i64 f, .int .i64 t, .slice A' q c'] := by
      show [Value.int .i64 f, .int .i64 t, .slice A' bs.length c'] = _
      rw [hql]
    have h1 := sub_st (H' := [row 5 1 A' q c' (bs.map bv), dtB 5 (R.map pkd), row 30 3 A7 (j + 1) c7 (cellsL pkc R ++ [.int .i64 f, .int .i64 t, .slice A' q c']), pt b1 25 (ntc A n c A2 n2 c2'), pt b2 25 (ntc none 0 0 none 0 0), pt b3 25 ((ntc A5 j c5 A6 n2 c6).set (0 + 0) (.slice A7 (j + 1) c7)), row 73 2 A6 n2 c6 (cellsL ctc C)]) w' hS
    have h2 : St w (owns []) [dtA 5 (A', c', bs), dtB 5 (R.map pkd), row 30 3 A7 (j + 1) c7 (cellsL pkc R ++ [.int .i64 f, .int .i64 t, .slice A' q c']), pt b1 25 (ntc A n c A2 n2 c2'), pt b2 25 (ntc none 0 0 none 0 0), pt b3 25 (ntc A7 (j + 1) c7 A6 n2 c6), row 73 2 A6 n2 c6 (cellsL ctc C)] w' := by
      unfold dtA
      rw [hql]
      exact h1
    have h3 := dtB_put h2
    rw [cellsL_app, cellsL_one, e1, List.map_append]
    exact sub_st (H' := [pt b1 25 (ntc A n c A2 n2 c2'), pt b2 25 (ntc none 0 0 none 0 0), pt b3 25 (ntc A7 (j + 1) c7 A6 n2 c6), row 30 3 A7 (j + 1) c7 (cellsL pkc R ++ [.int .i64 f, .int .i64 t, .slice A' q c']), dtB 5 (R.map pkd ++ [(A', c', bs)]), row 73 2 A6 n2 c6 (cellsL ctc C)]) w' h3
  have hjq : n = j := by omega
  subst hjq
  rw [← hWn, List.take_length] at hR
  focus (refine S_seq rfl ?_; refine S_region rfl rfl ?_; refine R_take (T_decF rfl (by omega)) ?_ rfl rfl; refine R_nil ?_; refine S_seq rfl ?_; refine S_false rfl rfl ?_; refine S_exit rfl rfl ?_; refine S_seq rfl ?_; refine S_region rfl rfl ?_; refine R_take (T_loads (ds := ntc A5 n c5 A6 n2 c6) rfl rfl rfl rfl rfl) ?_ rfl rfl; (refine R_eff0 (E_storew (cs := ntc none 0 0 none 0 0) (ds := ntc A5 n c5 A6 n2 c6) rfl rfl rfl rfl (ntc_one _ _ _ _ _ _) rfl) ?_ rfl; rintro _ _ rfl); refine R_nil ?_)
  refine hB _ _ _ _ _ rfl (.cell rfl rfl rfl inferInstance rfl .nil) fun w' hS => ?_
  have hS := sub_st (H' := [row 30 3 A5 n c5 (cellsL pkc R), dtB 5 (R.map pkd), row 73 2 A6 n2 c6 (cellsL ctc C)]) w' hS
  exact ⟨(((A5, c5), ⟨R, hR, fun m hm => dtB_caps (e := 5) (D := R.map pkd) hS (by simp) (pkd m) (List.mem_map.2 ⟨m, hm, rfl⟩)⟩), (A6, c6)), rfl, trivial, hS⟩
set_option maxRecDepth 100000 in
set_option maxHeartbeats 4000000 in
theorem indexC_any (w : World) (A : Option Addr) (n c : Nat) (C : List Ct) (hk : C.length = n) (m : Ct) (h : Rd w All 2 A n (cellsL ctc C)) (hn : n ≤ 1000) :
    Gives Try.prog 68 [.slice A n c, .agg (ctc m).toArray] [] w (X := Int) (fun x => .int .i64 x) (fun x => 0 ≤ x ↔ m ∈ C) (fun _ => []) := by
  refine gives_S Try.func68 rfl Try.ntmps68 Try.results68 (by simp) (St.enter w) (fun B hB => ?_)
  have hne : 0 < n → A ≠ none := fun h0 => by obtain ⟨ad, rfl, _⟩ := h.2 (by omega); simp
  focus (refine S_seq rfl ?_; refine S_region rfl rfl ?_; (refine R_eff (E_boxa (cs := ctc m) rfl) ?_ rfl rfl; rintro _ _ ⟨b3, rfl, rfl⟩); refine R_p rfl ?_ rfl rfl; refine R_nil ?_; refine S_seq rfl ?_; refine S_seq rfl ?_; refine S_region rfl rfl ?_; refine R_p rfl ?_ rfl rfl; refine R_p rfl ?_ rfl rfl; refine R_p rfl ?_ rfl rfl; refine R_nil ?_; refine S_block rfl ?_)
  refine S_loop (X := Nat) (fun j => [(0, .slice A n c), (3, .pointer (some ⟨b3, 0, none⟩)), (7, .int .i64 (n : Int)), (8, .int .i64 (j : Int))]) (fun _ => [pt b3 73 (ctc m)]) (fun j => j ≤ n ∧ ¬ m ∈ C.take j) (fun j => n - j) rfl 0 ⟨Nat.zero_le _, by simp⟩ (Sub.cons rfl (Sub.cons rfl (Sub.cons rfl (Sub.cons rfl Sub.nil)))) sub_st ?_
  rintro j ⟨hj, htk⟩ J hJ
  rcases Nat.lt_or_ge j n with hjl | hjl
  · have hne := hne (by omega)
    have hat := cellsL_at (f := ctc) ctc_len C default j (by omega)
    have hnx : C.take (j + 1) = C.take j ++ [C.getD j default] := by
      rw [List.take_succ_eq_append_getElem (by omega)]
      simp [List.getD, show j < C.length by omega]
    have hmem : C.getD j default ∈ C := by simp [List.getD, show j < C.length by omega]
    generalize C.getD j default = x at hat hnx hmem
    obtain ⟨xy, hxy⟩ : ∃ q, decide (m = x) = q := ⟨_, rfl⟩
    cases xy
    · focus (refine S_seq rfl ?_; refine S_region rfl rfl ?_; refine R_take (T_decT rfl (by omega)) ?_ rfl rfl; refine R_nil ?_; refine S_seq rfl ?_; refine S_true rfl rfl ?_; refine S_skip rfl ?_; refine S_seq rfl ?_; refine S_block rfl ?_; refine S_seq rfl ?_; refine S_region rfl rfl ?_; refine R_p rfl ?_ rfl rfl; refine R_p rfl ?_ rfl rfl; refine R_nil ?_; refine S_seq rfl ?_; (refine S_draw _ (fun _ h => h) (by kernel_rfl) rfl (by kernel_rfl) (rfl : _ = 6) ?_; (refine D_take 0 rfl (T_loads (ds := ctc m) rfl rfl rfl rfl rfl) ?_ rfl rfl (by kernel_rfl) (by kernel_rfl)); (refine D_take 1 rfl (pev_ok rfl) ?_ rfl rfl (by kernel_rfl) (by kernel_rfl)); (refine D_take 2 rfl (pev_ok rfl) ?_ rfl rfl (by kernel_rfl) (by kernel_rfl)); (refine D_take 3 rfl (T_ixM (sz := 2) (q := j) rfl rfl rfl rfl rfl rfl hne hjl) ?_ rfl rfl (by kernel_rfl) (by kernel_rfl)); (refine D_take 4 rfl (T_lda (ds := ctc x) rfl rfl rfl (Srd.old h (fun k _ => noOwns k)) rfl (by omega) hat) ?_ rfl rfl (by kernel_rfl) (by kernel_rfl)); (refine D_take 5 rfl (T_eqCt (a := m) (b := x) rfl rfl hxy) ?_ rfl rfl (by kernel_rfl) (by kernel_rfl)); refine D_done ?_ (by kernel_rfl)); refine S_false rfl rfl ?_; refine S_skip rfl ?_; refine RS_blk ?_; refine S_region rfl rfl ?_; refine R_take (T_addN rfl rfl (by unfold fits; omega)) ?_ rfl rfl; refine R_p rfl ?_ rfl rfl; refine R_nil ?_)
      refine hJ (j + 1) _ _ ⟨by omega, ?_⟩ (Sub.cons rfl (Sub.cons rfl (Sub.cons rfl (Sub.cons rfl Sub.nil)))) sub_st (by omega)
      rw [hnx, List.mem_append, not_or]
      exact ⟨htk, fun h3 => of_decide_eq_false hxy (List.mem_singleton.1 h3)⟩
    · focus (refine S_seq rfl ?_; refine S_region rfl rfl ?_; refine R_take (T_decT rfl (by omega)) ?_ rfl rfl; refine R_nil ?_; refine S_seq rfl ?_; refine S_true rfl rfl ?_; refine S_skip rfl ?_; refine S_seq rfl ?_; refine S_block rfl ?_; refine S_seq rfl ?_; refine S_region rfl rfl ?_; refine R_p rfl ?_ rfl rfl; refine R_p rfl ?_ rfl rfl; refine R_nil ?_; refine S_seq rfl ?_; (refine S_draw _ (fun _ h => h) (by kernel_rfl) rfl (by kernel_rfl) (rfl : _ = 6) ?_; (refine D_take 0 rfl (T_loads (ds := ctc m) rfl rfl rfl rfl rfl) ?_ rfl rfl (by kernel_rfl) (by kernel_rfl)); (refine D_take 1 rfl (pev_ok rfl) ?_ rfl rfl (by kernel_rfl) (by kernel_rfl)); (refine D_take 2 rfl (pev_ok rfl) ?_ rfl rfl (by kernel_rfl) (by kernel_rfl)); (refine D_take 3 rfl (T_ixM (sz := 2) (q := j) rfl rfl rfl rfl rfl rfl hne hjl) ?_ rfl rfl (by kernel_rfl) (by kernel_rfl)); (refine D_take 4 rfl (T_lda (ds := ctc x) rfl rfl rfl (Srd.old h (fun k _ => noOwns k)) rfl (by omega) hat) ?_ rfl rfl (by kernel_rfl) (by kernel_rfl)); (refine D_take 5 rfl (T_eqCt (a := m) (b := x) rfl rfl hxy) ?_ rfl rfl (by kernel_rfl) (by kernel_rfl)); refine D_done ?_ (by kernel_rfl)); refine S_true rfl rfl ?_; refine S_seq rfl ?_; refine S_region rfl rfl ?_; refine R_p rfl ?_ rfl rfl; refine R_p rfl ?_ rfl rfl; refine R_nil ?_)
      refine hB _ _ _ _ _ rfl rfl fun w' hS => ⟨(j : Int), rfl, ⟨fun _ => ?_, fun _ => by omega⟩, hS.sublist (List.nil_sublist _)⟩
      rw [of_decide_eq_true hxy]
      exact hmem
  · have hjn : n = j := by omega
    subst hjn
    rw [← hk, List.take_length] at htk
    focus (refine S_seq rfl ?_; refine S_region rfl rfl ?_; refine R_take (T_decF rfl (by omega)) ?_ rfl rfl; refine R_nil ?_; refine S_seq rfl ?_; refine S_false rfl rfl ?_; refine S_exit rfl rfl ?_; refine S_seq rfl ?_; refine S_region rfl rfl ?_; refine R_p rfl ?_ rfl rfl; refine R_nil ?_)
    refine hB _ _ _ _ _ rfl rfl fun w' hS => ⟨-1, rfl, ⟨fun h => absurd h (by omega), fun h => absurd h htk⟩, hS.sublist (List.nil_sublist _)⟩
set_option maxRecDepth 100000 in
set_option maxHeartbeats 4000000 in
theorem containsC_k (w : World) (A : Option Addr) (n c : Nat) (C : List Ct) (hk : C.length = n) (m : Ct) (h : Rd w All 2 A n (cellsL ctc C)) (hn : n ≤ 1000) (r : Bool) (hr : decide (m ∈ C) = r) :
    Gives Try.prog 57 [.slice A n c, .agg (ctc m).toArray] [] w (X := Unit) (fun _ => .bool r) (fun _ => True) (fun _ => []) := by
  refine gives_S Try.func57 rfl Try.ntmps57 Try.results57 (by simp) (St.enter w) (fun B hB => ?_)
  focus (refine S_seq rfl ?_; refine S_region rfl rfl ?_; (refine R_eff (E_boxa (cs := ctc m) rfl) ?_ rfl rfl; rintro _ _ ⟨b3, rfl, rfl⟩); refine R_p rfl ?_ rfl rfl; refine R_nil ?_; refine S_seq rfl ?_; refine S_region rfl rfl ?_; refine R_p rfl ?_ rfl rfl; refine R_take (T_loads (ds := ctc m) rfl rfl rfl rfl rfl) ?_ rfl rfl; (refine R_eff (E_hv0 (f := 68) ⟨_, Try.func68, rfl, by kernel_rfl⟩ (fun w hS => indexC_any w A n c C hk m ((Srd.old h (fun k _ => noOwns k)).rd w hS) hn) rfl rfl (fun _ => rfl)) ?_ rfl rfl; rintro _ _ ⟨x, rfl, hx, rfl⟩); refine R_p rfl ?_ rfl rfl; refine R_p rfl ?_ rfl rfl; refine R_nil ?_)
  refine hB _ _ _ _ _ rfl rfl fun w' hS => ⟨(), ?_, trivial, hS.sublist (List.nil_sublist _)⟩
  rw [← hr, decide_eq_decide.2 hx.symm]
  rfl
/-- are two nodes cut off from one another, as the program looks -/
def partP (C : List Ct) (a b : Int) : Bool := decide ((minI a b, maxI a b) ∈ C)
/-- the same as the document says -/
def partB (C : List Ct) (a b : Int) : Bool := C.any fun c => (decide (c.1 = a) && decide (c.2 = b)) || (decide (c.1 = b) && decide (c.2 = a))
theorem part_eq {C : List Ct} (h : cutsB C C.length = true) (a b : Int) : partP C a b = partB C a b := by
  have hlt : ∀ c ∈ C, c.1 < c.2 := fun c hc => by
    obtain ⟨i, hi, rfl⟩ := List.getElem_of_mem hc
    have h1 := cutsB_at h hi
    unfold cutOk at h1
    have e : C.getD i default = C[i] := by simp [List.getD, hi]
    rw [e, Bool.and_eq_true, Bool.and_eq_true, decide_eq_true_eq] at h1
    have := pairB_lo h1.1.1
    omega
  unfold partP partB
  rw [Bool.eq_iff_iff, decide_eq_true_eq, List.any_eq_true]
  constructor
  · intro hm
    refine ⟨_, hm, ?_⟩
    have := hlt _ hm
    unfold minI maxI at this ⊢
    by_cases h1 : b < a
    · rw [if_pos h1, if_neg (by omega)]
      simp
    · by_cases h2 : a < b
      · rw [if_neg h1, if_pos h2]
        simp
      · rw [if_neg h1, if_neg h2] at this
        exact absurd this (by simp)
  · rintro ⟨⟨u, v⟩, hc, h1⟩
    have h2 : u < v := hlt _ hc
    simp only [Bool.or_eq_true, Bool.and_eq_true, decide_eq_true_eq] at h1
    unfold minI maxI
    rcases h1 with ⟨rfl, rfl⟩ | ⟨rfl, rfl⟩
    · rw [if_neg (by omega), if_pos h2]
      exact hc
    · rw [if_pos h2, if_neg (by omega)]
      exact hc
set_option maxRecDepth 100000 in
set_option maxHeartbeats 4000000 in
theorem parted_k (w : World) (A : Option Addr) (c n : Nat) (P : List Pk) (W : List Pn) (hk : P.length = n) (hW : P.map pkv = W) (h : Rd w All 3 A n (cellsL pkc P)) (A2 : Option Addr) (c2' n2 : Nat) (C : List Ct) (hk2 : C.length = n2) (h2 : Rd w All 2 A2 n2 (cellsL ctc C)) (hn : n ≤ 1000) (hn2 : n2 ≤ 1000) (m : Pk) (r : Bool) (hr : partP C m.1 m.2.1 = r) :
    Gives Try.prog 31 [.agg (ntc A n c A2 n2 c2').toArray, .agg (pkc m).toArray] [] w (X := Unit) (fun _ => .bool r) (fun _ => True) (fun _ => []) := by
  refine gives_S Try.func31 rfl Try.ntmps31 Try.results31 (by simp) (St.enter w) (fun B hB => ?_)
  focus (refine S_seq rfl ?_; refine S_region rfl rfl ?_; (refine R_eff (E_boxa (cs := ntc A n c A2 n2 c2') rfl) ?_ rfl rfl; rintro _ _ ⟨b2, rfl, rfl⟩); (refine R_eff (E_boxa (cs := pkc m) rfl) ?_ rfl rfl; rintro _ _ ⟨b3, rfl, rfl⟩); refine R_p rfl ?_ rfl rfl; refine R_nil ?_; refine S_seq rfl ?_; refine S_region rfl rfl ?_; refine R_p rfl ?_ rfl rfl; refine R_take (T_load rfl rfl rfl rfl) ?_ rfl rfl; refine R_p rfl ?_ rfl rfl; refine R_take (T_load rfl rfl rfl rfl) ?_ rfl rfl; (refine R_eff (E_hv0 (f := 52) ⟨_, Try.func52, rfl, by kernel_rfl⟩ (fun w hS => pair_k w m.1 m.2.1 _ rfl) rfl rfl (fun _ => rfl)) ?_ rfl rfl; rintro _ _ ⟨_, rfl, _, rfl⟩); refine R_p rfl ?_ rfl rfl; refine R_p rfl ?_ rfl rfl; refine R_p rfl ?_ rfl rfl; (refine R_eff (E_alloca rfl ct_zero) ?_ rfl rfl; rintro _ _ ⟨b5, rfl, rfl⟩); (refine R_eff0 (E_storew (cs := ctc (0, 0)) (ds := ctc (minI m.1 m.2.1, maxI m.1 m.2.1)) rfl rfl rfl rfl (ctc_one _) rfl) ?_ rfl; rintro _ _ rfl); refine R_p rfl ?_ rfl rfl; refine R_nil ?_; refine S_seq rfl ?_; refine S_region rfl rfl ?_; refine R_p rfl ?_ rfl rfl; refine R_take (T_load rfl rfl rfl rfl) ?_ rfl rfl; refine R_take (T_loads (ds := ctc (minI m.1 m.2.1, maxI m.1 m.2.1)) rfl rfl rfl rfl rfl) ?_ rfl rfl; (refine R_eff (E_hv0 (f := 57) ⟨_, Try.func57, rfl, by kernel_rfl⟩ (fun w hS => containsC_k w A2 n2 c2' C hk2 (minI m.1 m.2.1, maxI m.1 m.2.1) ((Srd.old h2 (fun k _ => noOwns k)).rd w hS) hn2 r hr) rfl rfl (fun _ => rfl)) ?_ rfl rfl; rintro _ _ ⟨_, rfl, _, rfl⟩); refine R_p rfl ?_ rfl rfl; refine R_nil ?_)
  exact hB _ _ _ _ _ rfl rfl fun w' hS => ⟨(), rfl, trivial, hS.sublist (List.nil_sublist _)⟩
set_option maxRecDepth 100000 in
set_option maxHeartbeats 4000000 in
theorem partedD_k (w : World) (A : Option Addr) (c n : Nat) (P : List Pk) (W : List Pn) (hk : P.length = n) (hW : P.map pkv = W) (h : Rd w All 3 A n (cellsL pkc P)) (A2 : Option Addr) (c2' n2 : Nat) (C : List Ct) (hk2 : C.length = n2) (h2 : Rd w All 2 A2 n2 (cellsL ctc C)) (hn : n ≤ 1000) (hn2 : n2 ≤ 1000) (a b : Int) (r : Bool) (hr : partB C a b = r) :
    Gives Try.prog 18 [.agg (ntc A n c A2 n2 c2').toArray, .int .i64 a, .int .i64 b] [] w (X := Unit) (fun _ => .bool r) (fun _ => True) (fun _ => []) := by
  refine gives_S Try.func18 rfl Try.ntmps18 Try.results18 (by simp) (St.enter w) (fun B hB => ?_)
  have hne : 0 < n2 → A2 ≠ none := fun h0 => by obtain ⟨ad, rfl, _⟩ := h2.2 (by omega); simp
  focus (refine S_seq rfl ?_; refine S_region rfl rfl ?_; (refine R_eff (E_boxa (cs := ntc A n c A2 n2 c2') rfl) ?_ rfl rfl; rintro _ _ ⟨b3, rfl, rfl⟩); refine R_p rfl ?_ rfl rfl; refine R_nil ?_; refine S_seq rfl ?_; refine S_seq rfl ?_; refine S_region rfl rfl ?_; refine R_p rfl ?_ rfl rfl; refine R_nil ?_; refine S_block rfl ?_)
  refine S_loop (X := Nat) (fun j => [(1, .int .i64 a), (2, .int .i64 b), (3, .pointer (some ⟨b3, 0, none⟩)), (7, .int .i64 (j : Int))]) (fun _ => [pt b3 25 (ntc A n c A2 n2 c2')]) (fun j => j ≤ n2 ∧ partB (C.take j) a b = false) (fun j => n2 - j) rfl 0 ⟨Nat.zero_le _, rfl⟩ (Sub.cons rfl (Sub.cons rfl (Sub.cons rfl (Sub.cons rfl Sub.nil)))) sub_st ?_
  rintro j ⟨hj, htk⟩ J hJ
  rcases Nat.lt_or_ge j n2 with hjl | hjl
  · have hne := hne (by omega)
    have hat := cellsL_at (f := ctc) ctc_len C default j (by omega)
    have hnx : C.take (j + 1) = C.take j ++ [C.getD j default] := by
      rw [List.take_succ_eq_append_getElem (by omega)]
      simp [List.getD, show j < C.length by omega]
    have hmem : C.getD j default ∈ C := by simp [List.getD, show j < C.length by omega]
    generalize C.getD j default = x at hat hnx hmem
    obtain ⟨u, v⟩ := x
    have hyes : (u = a ∧ v = b) ∨ (u = b ∧ v = a) → partB C a b = true := fun h3 => by
      unfold partB
      rw [List.any_eq_true]
      refine ⟨_, hmem, ?_⟩
      simp only [Bool.or_eq_true, Bool.and_eq_true, decide_eq_true_eq]
      exact h3
    have hno : ¬ ((u = a ∧ v = b) ∨ (u = b ∧ v = a)) → partB (C.take (j + 1)) a b = false := fun h3 => by
      unfold partB at htk ⊢
      rw [hnx, List.any_append, htk, Bool.false_or, List.any_cons, List.any_nil, Bool.or_false]
      rw [Bool.eq_false_iff]
      intro h4
      simp only [Bool.or_eq_true, Bool.and_eq_true, decide_eq_true_eq] at h4
      exact h3 h4
    by_cases h3 : (u = a ∧ v = b) ∨ (u = b ∧ v = a)
    · rw [hyes h3] at hr
      subst hr
      by_cases h4 : u = a
      · by_cases h5 : v = b
        · focus (refine S_seq rfl ?_; refine S_seq rfl ?_; refine S_region rfl rfl ?_; refine R_p rfl ?_ rfl rfl; refine R_p rfl ?_ rfl rfl; refine R_take (T_load rfl rfl rfl rfl) ?_ rfl rfl; refine R_p rfl ?_ rfl rfl; refine R_take (T_decT rfl (by omega)) ?_ rfl rfl; refine R_nil ?_; refine S_true rfl rfl ?_; refine S_skip rfl ?_; refine S_seq rfl ?_; refine S_block rfl ?_; refine S_seq rfl ?_; refine S_region rfl rfl ?_; refine R_p rfl ?_ rfl rfl; refine R_take (T_load rfl rfl rfl rfl) ?_ rfl rfl; refine R_p rfl ?_ rfl rfl; refine R_take (T_ixM (sz := 2) (q := j) rfl rfl rfl rfl rfl rfl hne hjl) ?_ rfl rfl; refine R_take (T_lda (ds := ctc (u, v)) rfl rfl rfl (Srd.old h2 (fun k _ => noOwns k)) rfl (by omega) hat) ?_ rfl rfl; (refine R_eff (E_alloca rfl ct_zero) ?_ rfl rfl; rintro _ _ ⟨b8, rfl, rfl⟩); (refine R_eff0 (E_storew (cs := ctc (0, 0)) (ds := ctc (u, v)) rfl rfl rfl rfl (ctc_one _) rfl) ?_ rfl; rintro _ _ rfl); refine R_nil ?_; refine S_seq rfl ?_; refine S_region rfl rfl ?_; refine R_p rfl ?_ rfl rfl; refine R_take (T_load (v := .int .i64 u) rfl rfl rfl rfl) ?_ rfl rfl; refine R_p rfl ?_ rfl rfl; refine R_take (T_decT rfl (by omega)) ?_ rfl rfl; refine R_p rfl ?_ rfl rfl; refine R_p rfl ?_ rfl rfl; refine R_take (T_load (v := .int .i64 v) rfl rfl rfl rfl) ?_ rfl rfl; refine R_p rfl ?_ rfl rfl; refine R_take (T_decT rfl (by omega)) ?_ rfl rfl; refine R_p rfl ?_ rfl rfl; refine R_p rfl ?_ rfl rfl; refine R_skip ?_ rfl rfl; refine R_skip ?_ rfl rfl; refine R_skip ?_ rfl rfl; refine R_skip ?_ rfl rfl; refine R_skip ?_ rfl rfl; refine R_skip ?_ rfl rfl; refine R_skip ?_ rfl rfl; refine R_skip ?_ rfl rfl; refine R_skip ?_ rfl rfl; refine R_skip ?_ rfl rfl; refine R_p rfl ?_ rfl rfl; refine R_nil ?_; refine S_true rfl rfl ?_; refine S_seq rfl ?_; refine S_region rfl rfl ?_; refine R_p rfl ?_ rfl rfl; refine R_nil ?_)
          exact hB _ _ _ _ _ rfl rfl fun w' hS => ⟨(), rfl, trivial, hS.sublist (List.nil_sublist _)⟩
        · have h6 : u = b := by omega
          have h7 : v = a := by omega
          focus (refine S_seq rfl ?_; refine S_seq rfl ?_; refine S_region rfl rfl ?_; refine R_p rfl ?_ rfl rfl; refine R_p rfl ?_ rfl rfl; refine R_take (T_load rfl rfl rfl rfl) ?_ rfl rfl; refine R_p rfl ?_ rfl rfl; refine R_take (T_decT rfl (by omega)) ?_ rfl rfl; refine R_nil ?_; refine S_true rfl rfl ?_; refine S_skip rfl ?_; refine S_seq rfl ?_; refine S_block rfl ?_; refine S_seq rfl ?_; refine S_region rfl rfl ?_; refine R_p rfl ?_ rfl rfl; refine R_take (T_load rfl rfl rfl rfl) ?_ rfl rfl; refine R_p rfl ?_ rfl rfl; refine R_take (T_ixM (sz := 2) (q := j) rfl rfl rfl rfl rfl rfl hne hjl) ?_ rfl rfl; refine R_take (T_lda (ds := ctc (u, v)) rfl rfl rfl (Srd.old h2 (fun k _ => noOwns k)) rfl (by omega) hat) ?_ rfl rfl; (refine R_eff (E_alloca rfl ct_zero) ?_ rfl rfl; rintro _ _ ⟨b8, rfl, rfl⟩); (refine R_eff0 (E_storew (cs := ctc (0, 0)) (ds := ctc (u, v)) rfl rfl rfl rfl (ctc_one _) rfl) ?_ rfl; rintro _ _ rfl); refine R_nil ?_; refine S_seq rfl ?_; refine S_region rfl rfl ?_; refine R_p rfl ?_ rfl rfl; refine R_take (T_load (v := .int .i64 u) rfl rfl rfl rfl) ?_ rfl rfl; refine R_p rfl ?_ rfl rfl; refine R_take (T_decT rfl (by omega)) ?_ rfl rfl; refine R_p rfl ?_ rfl rfl; refine R_p rfl ?_ rfl rfl; refine R_take (T_load (v := .int .i64 v) rfl rfl rfl rfl) ?_ rfl rfl; refine R_p rfl ?_ rfl rfl; refine R_take (T_decT rfl (by omega)) ?_ rfl rfl; refine R_p rfl ?_ rfl rfl; refine R_p rfl ?_ rfl rfl; refine R_skip ?_ rfl rfl; refine R_skip ?_ rfl rfl; refine R_skip ?_ rfl rfl; refine R_skip ?_ rfl rfl; refine R_skip ?_ rfl rfl; refine R_skip ?_ rfl rfl; refine R_skip ?_ rfl rfl; refine R_skip ?_ rfl rfl; refine R_skip ?_ rfl rfl; refine R_skip ?_ rfl rfl; refine R_p rfl ?_ rfl rfl; refine R_nil ?_; refine S_true rfl rfl ?_; refine S_seq rfl ?_; refine S_region rfl rfl ?_; refine R_p rfl ?_ rfl rfl; refine R_nil ?_)
          exact hB _ _ _ _ _ rfl rfl fun w' hS => ⟨(), rfl, trivial, hS.sublist (List.nil_sublist _)⟩
      · have h6 : u = b := by omega
        have h7 : v = a := by omega
        focus (refine S_seq rfl ?_; refine S_seq rfl ?_; refine S_region rfl rfl ?_; refine R_p rfl ?_ rfl rfl; refine R_p rfl ?_ rfl rfl; refine R_take (T_load rfl rfl rfl rfl) ?_ rfl rfl; refine R_p rfl ?_ rfl rfl; refine R_take (T_decT rfl (by omega)) ?_ rfl rfl; refine R_nil ?_; refine S_true rfl rfl ?_; refine S_skip rfl ?_; refine S_seq rfl ?_; refine S_block rfl ?_; refine S_seq rfl ?_; refine S_region rfl rfl ?_; refine R_p rfl ?_ rfl rfl; refine R_take (T_load rfl rfl rfl rfl) ?_ rfl rfl; refine R_p rfl ?_ rfl rfl; refine R_take (T_ixM (sz := 2) (q := j) rfl rfl rfl rfl rfl rfl hne hjl) ?_ rfl rfl; refine R_take (T_lda (ds := ctc (u, v)) rfl rfl rfl (Srd.old h2 (fun k _ => noOwns k)) rfl (by omega) hat) ?_ rfl rfl; (refine R_eff (E_alloca rfl ct_zero) ?_ rfl rfl; rintro _ _ ⟨b8, rfl, rfl⟩); (refine R_eff0 (E_storew (cs := ctc (0, 0)) (ds := ctc (u, v)) rfl rfl rfl rfl (ctc_one _) rfl) ?_ rfl; rintro _ _ rfl); refine R_nil ?_; refine S_seq rfl ?_; refine S_region rfl rfl ?_; refine R_p rfl ?_ rfl rfl; refine R_take (T_load (v := .int .i64 u) rfl rfl rfl rfl) ?_ rfl rfl; refine R_p rfl ?_ rfl rfl; refine R_take (T_decF rfl (by omega)) ?_ rfl rfl; refine R_p rfl ?_ rfl rfl; refine R_skip ?_ rfl rfl; refine R_skip ?_ rfl rfl; refine R_skip ?_ rfl rfl; refine R_skip ?_ rfl rfl; refine R_p rfl ?_ rfl rfl; refine R_p rfl ?_ rfl rfl; refine R_p rfl ?_ rfl rfl; refine R_take (T_load (v := .int .i64 u) rfl rfl rfl rfl) ?_ rfl rfl; refine R_p rfl ?_ rfl rfl; refine R_take (T_decT rfl (by omega)) ?_ rfl rfl; refine R_p rfl ?_ rfl rfl; refine R_p rfl ?_ rfl rfl; refine R_take (T_load (v := .int .i64 v) rfl rfl rfl rfl) ?_ rfl rfl; refine R_p rfl ?_ rfl rfl; refine R_take (T_decT rfl (by omega)) ?_ rfl rfl; refine R_p rfl ?_ rfl rfl; refine R_p rfl ?_ rfl rfl; refine R_nil ?_; refine S_true rfl rfl ?_; refine S_seq rfl ?_; refine S_region rfl rfl ?_; refine R_p rfl ?_ rfl rfl; refine R_nil ?_)
        exact hB _ _ _ _ _ rfl rfl fun w' hS => ⟨(), rfl, trivial, hS.sublist (List.nil_sublist _)⟩
    · by_cases h4 : u = a
      · have h5 : ¬ v = b := by omega
        by_cases h6 : u = b
        · have h7 : ¬ v = a := by omega
          focus (refine S_seq rfl ?_; refine S_seq rfl ?_; refine S_region rfl rfl ?_; refine R_p rfl ?_ rfl rfl; refine R_p rfl ?_ rfl rfl; refine R_take (T_load rfl rfl rfl rfl) ?_ rfl rfl; refine R_p rfl ?_ rfl rfl; refine R_take (T_decT rfl (by omega)) ?_ rfl rfl; refine R_nil ?_; refine S_true rfl rfl ?_; refine S_skip rfl ?_; refine S_seq rfl ?_; refine S_block rfl ?_; refine S_seq rfl ?_; refine S_region rfl rfl ?_; refine R_p rfl ?_ rfl rfl; refine R_take (T_load rfl rfl rfl rfl) ?_ rfl rfl; refine R_p rfl ?_ rfl rfl; refine R_take (T_ixM (sz := 2) (q := j) rfl rfl rfl rfl rfl rfl hne hjl) ?_ rfl rfl; refine R_take (T_lda (ds := ctc (u, v)) rfl rfl rfl (Srd.old h2 (fun k _ => noOwns k)) rfl (by omega) hat) ?_ rfl rfl; (refine R_eff (E_alloca rfl ct_zero) ?_ rfl rfl; rintro _ _ ⟨b8, rfl, rfl⟩); (refine R_eff0 (E_storew (cs := ctc (0, 0)) (ds := ctc (u, v)) rfl rfl rfl rfl (ctc_one _) rfl) ?_ rfl; rintro _ _ rfl); refine R_nil ?_; refine S_seq rfl ?_; refine S_region rfl rfl ?_; refine R_p rfl ?_ rfl rfl; refine R_take (T_load (v := .int .i64 u) rfl rfl rfl rfl) ?_ rfl rfl; refine R_p rfl ?_ rfl rfl; refine R_take (T_decT rfl (by omega)) ?_ rfl rfl; refine R_p rfl ?_ rfl rfl; refine R_p rfl ?_ rfl rfl; refine R_take (T_load (v := .int .i64 v) rfl rfl rfl rfl) ?_ rfl rfl; refine R_p rfl ?_ rfl rfl; refine R_take (T_decF rfl (by omega)) ?_ rfl rfl; refine R_p rfl ?_ rfl rfl; refine R_p rfl ?_ rfl rfl; refine R_p rfl ?_ rfl rfl; refine R_take (T_load (v := .int .i64 u) rfl rfl rfl rfl) ?_ rfl rfl; refine R_p rfl ?_ rfl rfl; refine R_take (T_decT rfl (by omega)) ?_ rfl rfl; refine R_p rfl ?_ rfl rfl; refine R_p rfl ?_ rfl rfl; refine R_take (T_load (v := .int .i64 v) rfl rfl rfl rfl) ?_ rfl rfl; refine R_p rfl ?_ rfl rfl; refine R_take (T_decF rfl (by omega)) ?_ rfl rfl; refine R_p rfl ?_ rfl rfl; refine R_p rfl ?_ rfl rfl; refine R_nil ?_; refine S_false rfl rfl ?_; refine S_skip rfl ?_; refine RS_blk ?_; refine S_region rfl rfl ?_; refine R_p rfl ?_ rfl rfl; refine R_take (T_addN rfl rfl (by unfold fits; omega)) ?_ rfl rfl; refine R_p rfl ?_ rfl rfl; refine R_nil ?_)
          exact hJ (j + 1) _ _ ⟨by omega, hno h3⟩ (Sub.cons rfl (Sub.cons rfl (Sub.cons rfl (Sub.cons rfl Sub.nil)))) sub_st (by omega)
        · focus (refine S_seq rfl ?_; refine S_seq rfl ?_; refine S_region rfl rfl ?_; refine R_p rfl ?_ rfl rfl; refine R_p rfl ?_ rfl rfl; refine R_take (T_load rfl rfl rfl rfl) ?_ rfl rfl; refine R_p rfl ?_ rfl rfl; refine R_take (T_decT rfl (by omega)) ?_ rfl rfl; refine R_nil ?_; refine S_true rfl rfl ?_; refine S_skip rfl ?_; refine S_seq rfl ?_; refine S_block rfl ?_; refine S_seq rfl ?_; refine S_region rfl rfl ?_; refine R_p rfl ?_ rfl rfl; refine R_take (T_load rfl rfl rfl rfl) ?_ rfl rfl; refine R_p rfl ?_ rfl rfl; refine R_take (T_ixM (sz := 2) (q := j) rfl rfl rfl rfl rfl rfl hne hjl) ?_ rfl rfl; refine R_take (T_lda (ds := ctc (u, v)) rfl rfl rfl (Srd.old h2 (fun k _ => noOwns k)) rfl (by omega) hat) ?_ rfl rfl; (refine R_eff (E_alloca rfl ct_zero) ?_ rfl rfl; rintro _ _ ⟨b8, rfl, rfl⟩); (refine R_eff0 (E_storew (cs := ctc (0, 0)) (ds := ctc (u, v)) rfl rfl rfl rfl (ctc_one _) rfl) ?_ rfl; rintro _ _ rfl); refine R_nil ?_; refine S_seq rfl ?_; refine S_region rfl rfl ?_; refine R_p rfl ?_ rfl rfl; refine R_take (T_load (v := .int .i64 u) rfl rfl rfl rfl) ?_ rfl rfl; refine R_p rfl ?_ rfl rfl; refine R_take (T_decT rfl (by omega)) ?_ rfl rfl; refine R_p rfl ?_ rfl rfl; refine R_p rfl ?_ rfl rfl; refine R_take (T_load (v := .int .i64 v) rfl rfl rfl rfl) ?_ rfl rfl; refine R_p rfl ?_ rfl rfl; refine R_take (T_decF rfl (by omega)) ?_ rfl rfl; refine R_p rfl ?_ rfl rfl; refine R_p rfl ?_ rfl rfl; refine R_p rfl ?_ rfl rfl; refine R_take (T_load (v := .int .i64 u) rfl rfl rfl rfl) ?_ rfl rfl; refine R_p rfl ?_ rfl rfl; refine R_take (T_decF rfl (by omega)) ?_ rfl rfl; refine R_p rfl ?_ rfl rfl; refine R_skip ?_ rfl rfl; refine R_skip ?_ rfl rfl; refine R_skip ?_ rfl rfl; refine R_skip ?_ rfl rfl; refine R_p rfl ?_ rfl rfl; refine R_p rfl ?_ rfl rfl; refine R_nil ?_; refine S_false rfl rfl ?_; refine S_skip rfl ?_; refine RS_blk ?_; refine S_region rfl rfl ?_; refine R_p rfl ?_ rfl rfl; refine R_take (T_addN rfl rfl (by unfold fits; omega)) ?_ rfl rfl; refine R_p rfl ?_ rfl rfl; refine R_nil ?_)
          exact hJ (j + 1) _ _ ⟨by omega, hno h3⟩ (Sub.cons rfl (Sub.cons rfl (Sub.cons rfl (Sub.cons rfl Sub.nil)))) sub_st (by omega)
      · by_cases h6 : u = b
        · have h7 : ¬ v = a := by omega
          focus (refine S_seq rfl ?_; refine S_seq rfl ?_; refine S_region rfl rfl ?_; refine R_p rfl ?_ rfl rfl; refine R_p rfl ?_ rfl rfl; refine R_take (T_load rfl rfl rfl rfl) ?_ rfl rfl; refine R_p rfl ?_ rfl rfl; refine R_take (T_decT rfl (by omega)) ?_ rfl rfl; refine R_nil ?_; refine S_true rfl rfl ?_; refine S_skip rfl ?_; refine S_seq rfl ?_; refine S_block rfl ?_; refine S_seq rfl ?_; refine S_region rfl rfl ?_; refine R_p rfl ?_ rfl rfl; refine R_take (T_load rfl rfl rfl rfl) ?_ rfl rfl; refine R_p rfl ?_ rfl rfl; refine R_take (T_ixM (sz := 2) (q := j) rfl rfl rfl rfl rfl rfl hne hjl) ?_ rfl rfl; refine R_take (T_lda (ds := ctc (u, v)) rfl rfl rfl (Srd.old h2 (fun k _ => noOwns k)) rfl (by omega) hat) ?_ rfl rfl; (refine R_eff (E_alloca rfl ct_zero) ?_ rfl rfl; rintro _ _ ⟨b8, rfl, rfl⟩); (refine R_eff0 (E_storew (cs := ctc (0, 0)) (ds := ctc (u, v)) rfl rfl rfl rfl (ctc_one _) rfl) ?_ rfl; rintro _ _ rfl); refine R_nil ?_; refine S_seq rfl ?_; refine S_region rfl rfl ?_; refine R_p rfl ?_ rfl rfl; refine R_take (T_load (v := .int .i64 u) rfl rfl rfl rfl) ?_ rfl rfl; refine R_p rfl ?_ rfl rfl; refine R_take (T_decF rfl (by omega)) ?_ rfl rfl; refine R_p rfl ?_ rfl rfl; refine R_skip ?_ rfl rfl; refine R_skip ?_ rfl rfl; refine R_skip ?_ rfl rfl; refine R_skip ?_ rfl rfl; refine R_p rfl ?_ rfl rfl; refine R_p rfl ?_ rfl rfl; refine R_p rfl ?_ rfl rfl; refine R_take (T_load (v := .int .i64 u) rfl rfl rfl rfl) ?_ rfl rfl; refine R_p rfl ?_ rfl rfl; refine R_take (T_decT rfl (by omega)) ?_ rfl rfl; refine R_p rfl ?_ rfl rfl; refine R_p rfl ?_ rfl rfl; refine R_take (T_load (v := .int .i64 v) rfl rfl rfl rfl) ?_ rfl rfl; refine R_p rfl ?_ rfl rfl; refine R_take (T_decF rfl (by omega)) ?_ rfl rfl; refine R_p rfl ?_ rfl rfl; refine R_p rfl ?_ rfl rfl; refine R_nil ?_; refine S_false rfl rfl ?_; refine S_skip rfl ?_; refine RS_blk ?_; refine S_region rfl rfl ?_; refine R_p rfl ?_ rfl rfl; refine R_take (T_addN rfl rfl (by unfold fits; omega)) ?_ rfl rfl; refine R_p rfl ?_ rfl rfl; refine R_nil ?_)
          exact hJ (j + 1) _ _ ⟨by omega, hno h3⟩ (Sub.cons rfl (Sub.cons rfl (Sub.cons rfl (Sub.cons rfl Sub.nil)))) sub_st (by omega)
        · focus (refine S_seq rfl ?_; refine S_seq rfl ?_; refine S_region rfl rfl ?_; refine R_p rfl ?_ rfl rfl; refine R_p rfl ?_ rfl rfl; refine R_take (T_load rfl rfl rfl rfl) ?_ rfl rfl; refine R_p rfl ?_ rfl rfl; refine R_take (T_decT rfl (by omega)) ?_ rfl rfl; refine R_nil ?_; refine S_true rfl rfl ?_; refine S_skip rfl ?_; refine S_seq rfl ?_; refine S_block rfl ?_; refine S_seq rfl ?_; refine S_region rfl rfl ?_; refine R_p rfl ?_ rfl rfl; refine R_take (T_load rfl rfl rfl rfl) ?_ rfl rfl; refine R_p rfl ?_ rfl rfl; refine R_take (T_ixM (sz := 2) (q := j) rfl rfl rfl rfl rfl rfl hne hjl) ?_ rfl rfl; refine R_take (T_lda (ds := ctc (u, v)) rfl rfl rfl (Srd.old h2 (fun k _ => noOwns k)) rfl (by omega) hat) ?_ rfl rfl; (refine R_eff (E_alloca rfl ct_zero) ?_ rfl rfl; rintro _ _ ⟨b8, rfl, rfl⟩); (refine R_eff0 (E_storew (cs := ctc (0, 0)) (ds := ctc (u, v)) rfl rfl rfl rfl (ctc_one _) rfl) ?_ rfl; rintro _ _ rfl); refine R_nil ?_; refine S_seq rfl ?_; refine S_region rfl rfl ?_; refine R_p rfl ?_ rfl rfl; refine R_take (T_load (v := .int .i64 u) rfl rfl rfl rfl) ?_ rfl rfl; refine R_p rfl ?_ rfl rfl; refine R_take (T_decF rfl (by omega)) ?_ rfl rfl; refine R_p rfl ?_ rfl rfl; refine R_skip ?_ rfl rfl; refine R_skip ?_ rfl rfl; refine R_skip ?_ rfl rfl; refine R_skip ?_ rfl rfl; refine R_p rfl ?_ rfl rfl; refine R_p rfl ?_ rfl rfl; refine R_p rfl ?_ rfl rfl; refine R_take (T_load (v := .int .i64 u) rfl rfl rfl rfl) ?_ rfl rfl; refine R_p rfl ?_ rfl rfl; refine R_take (T_decF rfl (by omega)) ?_ rfl rfl; refine R_p rfl ?_ rfl rfl; refine R_skip ?_ rfl rfl; refine R_skip ?_ rfl rfl; refine R_skip ?_ rfl rfl; refine R_skip ?_ rfl rfl; refine R_p rfl ?_ rfl rfl; refine R_p rfl ?_ rfl rfl; refine R_nil ?_; refine S_false rfl rfl ?_; refine S_skip rfl ?_; refine RS_blk ?_; refine S_region rfl rfl ?_; refine R_p rfl ?_ rfl rfl; refine R_take (T_addN rfl rfl (by unfold fits; omega)) ?_ rfl rfl; refine R_p rfl ?_ rfl rfl; refine R_nil ?_)
          exact hJ (j + 1) _ _ ⟨by omega, hno h3⟩ (Sub.cons rfl (Sub.cons rfl (Sub.cons rfl (Sub.cons rfl Sub.nil)))) sub_st (by omega)
  · have hjn : n2 = j := by omega
    subst hjn
    rw [← hk2, List.take_length, hr] at htk
    subst htk
    focus (refine S_seq rfl ?_; refine S_seq rfl ?_; refine S_region rfl rfl ?_; refine R_p rfl ?_ rfl rfl; refine R_p rfl ?_ rfl rfl; refine R_take (T_load rfl rfl rfl rfl) ?_ rfl rfl; refine R_p rfl ?_ rfl rfl; refine R_take (T_decF rfl (by omega)) ?_ rfl rfl; refine R_nil ?_; refine S_false rfl rfl ?_; refine S_exit rfl rfl ?_; refine S_seq rfl ?_; refine S_region rfl rfl ?_; refine R_p rfl ?_ rfl rfl; refine R_nil ?_)
    exact hB _ _ _ _ _ rfl rfl fun w' hS => ⟨(), rfl, trivial, hS.sublist (List.nil_sublist _)⟩
end Go.Proofs.Ytclmaoagdkhboaa
