/- Messages: what the laws ask first: wakes, large; copies. -/
import Derived.Test.YtdbehejbeioboaaDoorFrG
namespace Go.Proofs.YtdbehejbeioboaaDoor
open Go.RowKit
open Asn (pt row rb)
set_option linter.unusedVariables false
set_option linter.unusedSimpArgs false
--@use N

section
variable {P : Program} {n : Nat} {w0 : World} {M : Nat → Prop} {T : Slots} {H : List Asn} {dd : Option Tmp} {tt : TypeId} {pos : String} {af : Array Edge} {g : Option (Nat × Bool)}
theorem T_build5 {s : TypeId} {j1 j2 j3 j4 j5 : Nat} {x1 x2 x3 x4 x5 : Operand} {u1 u2 u3 u4 u5 : Value} {cs : List Value} (h1 : oget T x1 = some u1) (h2 : oget T x2 = some u2) (h3 : oget T x3 = some u3) (h4 : oget T x4 = some u4) (h5 : oget T x5 = some u5) (hb : P.built s [(j1, u1), (j2, u2), (j3, u3), (j4, u4), (j5, u5)] = some cs.toArray) :
    Tk P n w0 M T H ⟨dd, .build s #[(j1, x1), (j2, x2), (j3, x3), (j4, x4), (j5, x5)], tt, pos, af, g⟩ (.agg cs.toArray) := .mk fun a w ha hS => by
  have hr := run_build (P := P) w s #[(j1, u1), (j2, u2), (j3, u3), (j4, u4), (j5, u5)] cs.toArray (by simpa using hb)
  simp only [execOp, List.map_toArray, List.map_cons, List.map_nil, ha.eval h1, ha.eval h2, ha.eval h3, ha.eval h4, ha.eval h5, Sem.run_bind, hr, Result.andThen_ok, Sem.run_pure]
end
def m0 : Ms := ⟨4, 1, 2, 3, (0, 0), [], 0, true, 0, [], []⟩
theorem mg_built5 : Tryd.prog.built 31 [(0, .int .i64 4), (1, .int .i64 1), (2, .int .i64 2), (3, .int .u64 3), (7, .bool true)] = some (mgc m0 P0).toArray := by kernel_rfl
theorem m0_ok : MsOk m0 := right_ok.1 (by decide +kernel)
theorem m0_u : MsU m0 := ⟨by decide, by decide, by decide, by decide, by decide, fun e he => absurd he (by simp [m0])⟩
theorem m0_len : (plainB m0).length = 12 := by decide +kernel
theorem m0_at0 (s : List UInt8) : ((plainB m0 ++ s).getD 0 0).toNat = 4 := by
  have h : plainB m0 = [4, 1, 2, 0, 0, 0, 0, 0, 0, 0, 3, 1] := by decide +kernel
  rw [h]; rfl
theorem m0_at11 (s : List UInt8) : ((plainB m0 ++ s).getD 11 0).toNat = 1 := by
  have h : plainB m0 = [4, 1, 2, 0, 0, 0, 0, 0, 0, 0, 3, 1] := by decide +kernel
  rw [h]; rfl
theorem msr_nil (w : World) {x : Ms} (h1 : x.es = []) (h2 : x.cf = []) (h3 : x.dt = []) : MsR w x P0 := by
  obtain ⟨a1, a2, a3, a4, a5, es, a7, a8, a9, cf, dt⟩ := x
  dsimp only at h1 h2 h3
  subst h1 h2 h3
  exact ⟨rfl, Nat.zero_le _, rfl, Rd.none_, fun m hm => absurd hm (by simp), rfl, Nat.zero_le _, Rd.none_, Bs.nil _ _⟩
theorem encode_k (w : World) (hrt : Roots w) (x : Ms) (p : Mp) (h : MsR w x p) (hu : MsU x) (hok : MsOk x) (L : List UInt8) (n : Nat) (hL : plainB x ++ sumL (plainB x) = L) (hn : (plainB x).length = n) :
    Gives Tryd.prog 11 [.agg (mgc x p).toArray] [] w (X := Option Addr × Nat) (fun y => .tuple #[.slice y.1 (n + 32) y.2, .int .i64 0]) (fun y => y.1 ≠ none) (fun y => [row 5 1 y.1 (n + 32) y.2 (L.map bv)]) :=
  (hL ▸ encode_ok w hrt x p h hu hok (plainB x) n rfl hn).mono fun u w' ⟨y, he, _, hS⟩ => ⟨y, he, (row_facts (hS.at_ (List.mem_singleton.2 rfl))).2.2.1 (Nat.succ_pos _), hS⟩
/-- what Decode says of bytes -/
def Dec (b : List UInt8) (n : Nat) (x : Ms) (p : Mp) (e : Int) : Prop := (e = 0 ∧ DecP b x ∧ ∀ y, DecP b y → x = y) ∨ (e = (if n < 32 then 7 else 231) ∧ x = Z0 ∧ p = P0 ∧ ∀ y, ¬ DecP b y)
theorem Dec.is {b : List UInt8} {n : Nat} {x m : Ms} {p : Mp} {e : Int} (h : Dec b n x p e) (hm : DecP b m) : x = m ∧ e = 0 := by
  rcases h with ⟨h1, h2, h3⟩ | ⟨_, _, _, h4⟩
  · exact ⟨h3 m hm, h1⟩
  · exact absurd hm (h4 m)
theorem decP_of {x : Ms} (hok : MsOk x) (hu : MsU x) : DecP (plainB x ++ sumL (plainB x)) x := ⟨plainB x, rfl, hok, hu, rfl⟩
theorem decode_k (w : World) (hrt : Roots w) (A : Option Addr) (n c : Nat) (b : List UInt8) (hb : Bs w All A n c b) (hn : n ≤ 99000) :
    Gives Tryd.prog 17 [.slice A n c] [] w (X := Ms × Mp × Int) (fun y => .tuple #[.agg (mgc y.1 y.2.1).toArray, .int .i64 y.2.2]) (fun y => WfM y.1 y.2.1 ∧ Dec b n y.1 y.2.1 y.2.2) (fun y => [row 46 3 y.2.1.A y.2.1.n y.2.1.c (cellsL emc y.2.1.Q), dtB 5 (y.2.1.Q.map emd), row 3 1 y.2.1.cA y.2.1.cn y.2.1.cc (y.1.cf.map zv), row 5 1 y.2.1.dA y.2.1.dn y.2.1.dc (y.1.dt.map bv)]) := decode_any w hrt A n c b hb hn
set_option maxRecDepth 100000 in
set_option maxHeartbeats 4000000 in
theorem wakes13_any (w : World) (hrt : Roots w) : Gives Tryd.prog 9 [] [] w (X := Unit) (fun _ => .bool true) (fun _ => True) (fun _ => []) := by
  refine gives_S Tryd.func9 rfl Tryd.ntmps9 Tryd.results9 (by simp) (St.enter w) (fun B hB => ?_)
  obtain ⟨L, hL⟩ : ∃ L, plainB m0 ++ sumL (plainB m0) = L := ⟨_, rfl⟩
  have e0 : (L.getD 0 0).toNat = 4 := by rw [← hL]; exact m0_at0 _
  have e11 : (L.getD 11 0).toNat = 1 := by rw [← hL]; exact m0_at11 _
  have hll : L.length = 12 + 32 := by rw [← hL, List.length_append, m0_len, sumL_len]
  have hdm : DecP L m0 := hL ▸ decP_of m0_ok m0_u
  focus (refine S_seq rfl ?_; refine S_region rfl rfl ?_; refine R_p rfl ?_ rfl rfl; refine R_nil (S_seq rfl (S_region rfl rfl ?_)); refine R_take (T_build5 rfl rfl rfl rfl rfl mg_built5) ?_ rfl rfl; (refine R_eff (E_alloca rfl mg_zero) ?_ rfl rfl; rintro _ _ ⟨b1, rfl, rfl⟩); (refine R_eff0 (E_storew (cs := mgc Z0 P0) (ds := mgc m0 P0) rfl rfl rfl rfl (mgc_one _ _) rfl) ?_ rfl; rintro _ _ rfl); refine R_nil (S_seq rfl (S_region rfl rfl ?_)); refine R_take (T_loads (ds := mgc m0 P0) rfl rfl rfl rfl rfl) ?_ rfl rfl; (refine R_eff (E_hv1 (f := 11) ⟨_, Tryd.func11, rfl, by kernel_rfl⟩ (fun w hS => encode_k w (hrt.kp hS.kp (noOwns 0)) m0 P0 (msr_nil w rfl rfl rfl) m0_u m0_ok L 12 hL m0_len) rfl rfl (fun _ => rfl)) ?_ rfl rfl; rintro _ _ ⟨⟨A9, c9⟩, rfl, hne, rfl⟩); (iterate 5 refine R_p rfl ?_ rfl rfl); refine R_nil (S_seq rfl (S_region rfl rfl ?_)); refine R_p rfl ?_ rfl rfl)
  focus ((refine R_eff (E_hvG (f := 17) ⟨_, Tryd.func17, rfl, by kernel_rfl⟩ (fun w hS => decode_k w (hrt.kp hS.kp (noOwns 0)) A9 (12 + 32) c9 L (row_bs (e := 5) hS (by simp) hll) (by decide)) rfl rfl) ?_ rfl rfl; rintro _ _ ⟨⟨x, p, e⟩, rfl, ⟨hwf, hdec⟩, rfl⟩; dsimp only [List.cons_append, List.nil_append]; obtain ⟨rfl, rfl⟩ := hdec.is hdm); (iterate 3 refine R_p rfl ?_ rfl rfl); (refine R_eff (E_alloca rfl mg_zero) ?_ rfl rfl; rintro _ _ ⟨b4, rfl, rfl⟩); (refine R_eff0 (E_storew (cs := mgc Z0 P0) (ds := mgc m0 p) rfl rfl rfl rfl (mgc_one _ _) rfl) ?_ rfl; rintro _ _ rfl); refine R_p rfl ?_ rfl rfl; refine R_nil (S_seq rfl (S_region rfl rfl ?_)); refine R_p rfl ?_ rfl rfl; refine R_take (T_decT rfl (by omega)) ?_ rfl rfl; (iterate 2 refine R_p rfl ?_ rfl rfl); refine R_take (T_decT rfl (by omega)) ?_ rfl rfl; (iterate 4 refine R_p rfl ?_ rfl rfl); refine R_take (T_decT rfl (by omega)) ?_ rfl rfl; (iterate 3 refine R_p rfl ?_ rfl rfl); refine R_take (T_ixN rfl rfl rfl rfl rfl rfl hne (by decide)) ?_ rfl rfl; refine R_take (T_ldb (j := 0) (A := A9) (m := 12 + 32) (c := c9) (bs := L) rfl rfl rfl Src.row (by decide)) ?_ rfl rfl; refine R_take (T_decT rfl (by omega)) ?_ rfl rfl; (iterate 3 refine R_p rfl ?_ rfl rfl); refine R_take (T_ixN rfl rfl rfl rfl rfl rfl hne (by decide)) ?_ rfl rfl; refine R_take (T_ldb (j := 11) (A := A9) (m := 12 + 32) (c := c9) (bs := L) rfl rfl rfl Src.row (by decide)) ?_ rfl rfl; refine R_take (T_decT rfl (by omega)) ?_ rfl rfl; (iterate 3 refine R_p rfl ?_ rfl rfl); refine R_take (T_load (v := .bool true) rfl rfl rfl rfl) ?_ rfl rfl; (iterate 3 refine R_p rfl ?_ rfl rfl); refine R_take (T_load (v := .int .u64 (3 : Int)) rfl rfl rfl rfl) ?_ rfl rfl; refine R_take (T_decT rfl (by omega)) ?_ rfl rfl; (iterate 2 refine R_p rfl ?_ rfl rfl); refine R_nil ?_)
  exact hB _ _ _ _ _ rfl rfl fun w' hS => ⟨(), rfl, trivial, hS.sublist (List.nil_sublist _)⟩
set_option maxRecDepth 100000 in
set_option maxHeartbeats 4000000 in
theorem largeM_any (w : World) (x : Ms) (p : Mp) (h : MsR w x p) :
    Gives Tryd.prog 10 [.agg (mgc x p).toArray] [] w (X := Bool) (fun y => .bool y) (fun y => y = false → p.n ≤ 50 ∧ p.cn ≤ 50 ∧ p.dn ≤ 70000 ∧ ∀ m ∈ p.Q, m.2.2.2.2.length ≤ 5000) (fun _ => []) := by
  refine gives_S Tryd.func10 rfl Tryd.ntmps10 Tryd.results10 (by simp) (St.enter w) (fun B hB => ?_)
  have hnm := h.hm
  have hln := h.hn
  have hcm := h.hmc
  unfold maxLen at hnm hcm
  have hne : 0 < p.n → p.A ≠ none := fun h0 => by obtain ⟨ad, e, _⟩ := h.rq.2 h0; rw [e]; simp
  by_cases h1 : 50 < p.n
  · focus (refine S_seq rfl ?_; refine S_region rfl rfl ?_; (refine R_eff (E_boxa (cs := mgc x p) rfl) ?_ rfl rfl; rintro _ _ ⟨b1, rfl, rfl⟩); refine R_p rfl ?_ rfl rfl; refine R_nil ?_; refine S_seq rfl ?_; refine S_seq rfl (S_region rfl rfl ?_); refine R_p rfl ?_ rfl rfl; refine R_take (T_load rfl rfl rfl rfl) ?_ rfl rfl; refine R_p rfl ?_ rfl rfl; refine R_take (T_decT rfl (by omega)) ?_ rfl rfl; refine R_p rfl ?_ rfl rfl; (iterate 5 refine R_skip ?_ rfl rfl); (iterate 2 refine R_p rfl ?_ rfl rfl); (iterate 4 refine R_skip ?_ rfl rfl); refine R_p rfl ?_ rfl rfl; refine R_nil ?_; refine S_true rfl rfl ?_; refine S_seq rfl (S_region rfl rfl ?_); refine R_p rfl ?_ rfl rfl; refine R_nil ?_)
    exact hB _ _ _ _ _ rfl rfl fun w' hS => ⟨true, rfl, fun e => (by cases e), hS.sublist (List.nil_sublist _)⟩
  by_cases h2 : 50 < p.cn
  · focus (refine S_seq rfl ?_; refine S_region rfl rfl ?_; (refine R_eff (E_boxa (cs := mgc x p) rfl) ?_ rfl rfl; rintro _ _ ⟨b1, rfl, rfl⟩); refine R_p rfl ?_ rfl rfl; refine R_nil ?_; refine S_seq rfl ?_; refine S_seq rfl (S_region rfl rfl ?_); refine R_p rfl ?_ rfl rfl; refine R_take (T_load rfl rfl rfl rfl) ?_ rfl rfl; refine R_p rfl ?_ rfl rfl; refine R_take (T_decF rfl (by omega)) ?_ rfl rfl; (iterate 3 refine R_p rfl ?_ rfl rfl); refine R_take (T_load rfl rfl rfl rfl) ?_ rfl rfl; refine R_p rfl ?_ rfl rfl; refine R_take (T_decT rfl (by omega)) ?_ rfl rfl; (iterate 2 refine R_p rfl ?_ rfl rfl); (iterate 4 refine R_skip ?_ rfl rfl); refine R_p rfl ?_ rfl rfl; refine R_nil ?_; refine S_true rfl rfl ?_; refine S_seq rfl (S_region rfl rfl ?_); refine R_p rfl ?_ rfl rfl; refine R_nil ?_)
    exact hB _ _ _ _ _ rfl rfl fun w' hS => ⟨true, rfl, fun e => (by cases e), hS.sublist (List.nil_sublist _)⟩
  by_cases h3 : 70000 < p.dn
  · focus (refine S_seq rfl ?_; refine S_region rfl rfl ?_; (refine R_eff (E_boxa (cs := mgc x p) rfl) ?_ rfl rfl; rintro _ _ ⟨b1, rfl, rfl⟩); refine R_p rfl ?_ rfl rfl; refine R_nil ?_; refine S_seq rfl ?_; refine S_seq rfl (S_region rfl rfl ?_); refine R_p rfl ?_ rfl rfl; refine R_take (T_load rfl rfl rfl rfl) ?_ rfl rfl; refine R_p rfl ?_ rfl rfl; refine R_take (T_decF rfl (by omega)) ?_ rfl rfl; (iterate 3 refine R_p rfl ?_ rfl rfl); refine R_take (T_load rfl rfl rfl rfl) ?_ rfl rfl; refine R_p rfl ?_ rfl rfl; refine R_take (T_decF rfl (by omega)) ?_ rfl rfl; (iterate 3 refine R_p rfl ?_ rfl rfl); refine R_take (T_load rfl rfl rfl rfl) ?_ rfl rfl; refine R_p rfl ?_ rfl rfl; refine R_take (T_decT rfl (by omega)) ?_ rfl rfl; refine R_p rfl ?_ rfl rfl; refine R_nil ?_; refine S_true rfl rfl ?_; refine S_seq rfl (S_region rfl rfl ?_); refine R_p rfl ?_ rfl rfl; refine R_nil ?_)
    exact hB _ _ _ _ _ rfl rfl fun w' hS => ⟨true, rfl, fun e => (by cases e), hS.sublist (List.nil_sublist _)⟩
  focus (refine S_seq rfl ?_; refine S_region rfl rfl ?_; (refine R_eff (E_boxa (cs := mgc x p) rfl) ?_ rfl rfl; rintro _ _ ⟨b1, rfl, rfl⟩); refine R_p rfl ?_ rfl rfl; refine R_nil ?_; refine S_seq rfl ?_; refine S_seq rfl (S_region rfl rfl ?_); refine R_p rfl ?_ rfl rfl; refine R_take (T_load rfl rfl rfl rfl) ?_ rfl rfl; refine R_p rfl ?_ rfl rfl; refine R_take (T_decF rfl (by omega)) ?_ rfl rfl; (iterate 3 refine R_p rfl ?_ rfl rfl); refine R_take (T_load rfl rfl rfl rfl) ?_ rfl rfl; refine R_p rfl ?_ rfl rfl; refine R_take (T_decF rfl (by omega)) ?_ rfl rfl; (iterate 3 refine R_p rfl ?_ rfl rfl); refine R_take (T_load rfl rfl rfl rfl) ?_ rfl rfl; refine R_p rfl ?_ rfl rfl; refine R_take (T_decF rfl (by omega)) ?_ rfl rfl; refine R_p rfl ?_ rfl rfl; refine R_nil ?_; refine S_false rfl rfl ?_; refine S_skip rfl ?_; refine S_seq rfl ?_; refine S_seq rfl (S_region rfl rfl ?_); refine R_p rfl ?_ rfl rfl; refine R_take (T_load rfl rfl rfl rfl) ?_ rfl rfl; (iterate 2 refine R_p rfl ?_ rfl rfl); refine R_nil ?_; refine S_block rfl ?_)
  refine S_loop (X := Nat) (fun j => [(1, .pointer (some ⟨b1, 0, none⟩)), (23, .slice p.A p.n p.c), (24, .int .i64 (p.n : Int)), (25, .int .i64 (j : Int))]) (fun _ => [pt b1 31 (mgc x p)]) (fun j => j ≤ p.n ∧ ∀ i, i < j → (p.Q.getD i default).2.2.2.2.length ≤ 5000) (fun j => p.n - j) rfl 0 ⟨Nat.zero_le _, fun i hi => absurd hi (Nat.not_lt_zero _)⟩ (Sub.cons rfl (Sub.cons rfl (Sub.cons rfl (Sub.cons rfl Sub.nil)))) sub_st ?_
  rintro j ⟨hj, hok⟩ J hJ
  rcases Nat.lt_or_ge j p.n with hjl | hjl
  · have hne := hne (by omega)
    have hat := cellsL_at (f := emc) emc_len p.Q default j (by omega)
    obtain ⟨m, hm⟩ : ∃ m, p.Q.getD j default = m := ⟨_, rfl⟩
    rw [hm] at hat
    obtain ⟨t, ki, D, cd, bs⟩ := m
    by_cases h4 : 5000 < bs.length
    · focus (refine S_seq rfl ?_; refine S_region rfl rfl ?_; refine R_take (T_decT rfl (by omega)) ?_ rfl rfl; refine R_nil ?_; refine S_seq rfl ?_; refine S_true rfl rfl ?_; refine S_skip rfl ?_; refine S_seq rfl ?_; refine S_block rfl ?_; refine S_seq rfl (S_region rfl rfl ?_); refine R_take (T_ixM (sz := 3) (q := j) rfl rfl rfl rfl rfl rfl hne hjl) ?_ rfl rfl; refine R_take (T_lda (ds := emc (t, ki, D, cd, bs)) rfl rfl rfl (Srd.old h.rq (fun k _ => noOwns k)) rfl (by omega) hat) ?_ rfl rfl; (refine R_eff (E_alloca rfl em_zero) ?_ rfl rfl; rintro _ _ ⟨b4, rfl, rfl⟩); (refine R_eff0 (E_storew (cs := emc (0, 0, none, 0, [])) (ds := emc (t, ki, D, cd, bs)) rfl rfl rfl rfl (emc_one _) rfl) ?_ rfl; rintro _ _ rfl); refine R_nil (S_seq rfl (S_region rfl rfl ?_)); refine R_p rfl ?_ rfl rfl; refine R_take (T_load (v := .slice D bs.length cd) rfl rfl rfl rfl) ?_ rfl rfl; refine R_p rfl ?_ rfl rfl; refine R_take (T_decT rfl (by omega)) ?_ rfl rfl; refine R_nil ?_; refine S_true rfl rfl ?_; refine S_seq rfl (S_region rfl rfl ?_); refine R_p rfl ?_ rfl rfl; refine R_nil ?_)
      exact hB _ _ _ _ _ rfl rfl fun w' hS => ⟨true, rfl, fun e => (by cases e), hS.sublist (List.nil_sublist _)⟩
    · focus (refine S_seq rfl ?_; refine S_region rfl rfl ?_; refine R_take (T_decT rfl (by omega)) ?_ rfl rfl; refine R_nil ?_; refine S_seq rfl ?_; refine S_true rfl rfl ?_; refine S_skip rfl ?_; refine S_seq rfl ?_; refine S_block rfl ?_; refine S_seq rfl (S_region rfl rfl ?_); refine R_take (T_ixM (sz := 3) (q := j) rfl rfl rfl rfl rfl rfl hne hjl) ?_ rfl rfl; refine R_take (T_lda (ds := emc (t, ki, D, cd, bs)) rfl rfl rfl (Srd.old h.rq (fun k _ => noOwns k)) rfl (by omega) hat) ?_ rfl rfl; (refine R_eff (E_alloca rfl em_zero) ?_ rfl rfl; rintro _ _ ⟨b4, rfl, rfl⟩); (refine R_eff0 (E_storew (cs := emc (0, 0, none, 0, [])) (ds := emc (t, ki, D, cd, bs)) rfl rfl rfl rfl (emc_one _) rfl) ?_ rfl; rintro _ _ rfl); refine R_nil (S_seq rfl (S_region rfl rfl ?_)); refine R_p rfl ?_ rfl rfl; refine R_take (T_load (v := .slice D bs.length cd) rfl rfl rfl rfl) ?_ rfl rfl; refine R_p rfl ?_ rfl rfl; refine R_take (T_decF rfl (by omega)) ?_ rfl rfl; refine R_nil ?_; refine S_false rfl rfl ?_; refine S_skip rfl ?_; refine RS_blk ?_; refine S_region rfl rfl ?_; refine R_take (T_addN rfl rfl (by unfold fits; omega)) ?_ rfl rfl; refine R_p rfl ?_ rfl rfl; refine R_nil ?_)
      refine hJ (j + 1) _ _ ⟨by omega, fun i hi => ?_⟩ (Sub.cons rfl (Sub.cons rfl (Sub.cons rfl (Sub.cons rfl Sub.nil)))) sub_st (by omega)
      rcases Nat.lt_or_ge i j with h5 | h5
      · exact hok i h5
      · rw [show i = j by omega, hm]
        show bs.length ≤ 5000
        omega
  · skip
    focus (refine S_seq rfl ?_; refine S_region rfl rfl ?_; refine R_take (T_decF rfl (by omega)) ?_ rfl rfl; refine R_nil ?_; refine S_seq rfl ?_; refine S_false rfl rfl ?_; refine S_exit rfl rfl ?_; refine S_seq rfl (S_region rfl rfl ?_); refine R_p rfl ?_ rfl rfl; refine R_nil ?_)
    refine hB _ _ _ _ _ rfl rfl fun w' hS => ⟨false, rfl, fun _ => ⟨by omega, by omega, by omega, fun m hm => ?_⟩, hS.sublist (List.nil_sublist _)⟩
    obtain ⟨i, hi, rfl⟩ := List.getElem_of_mem hm
    have := hok i (by omega)
    simpa [List.getD, hi] using this
end Go.Proofs.YtdbehejbeioboaaDoor
