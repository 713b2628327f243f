/- Messages: the document's Decode. -/
import Derived.Test.YtdbehejbeioboaaDoorFrF
namespace Go.Proofs.YtdbehejbeioboaaDoor
open Go.RowKit
open Asn (pt row rb)
set_option linter.unusedVariables false
set_option linter.unusedSimpArgs false
--@use N

theorem number_e (w : World) (A : Option Addr) (n c : Nat) (l : List UInt8) (hb : Bs w All A n c l) (at_ k : Nat) (ha : at_ ≤ 200000) (hk : k ≤ 8) (hn : n ≤ 100000) (v : Nat) (a : Bool) (hr : numR l at_ k = (v, a)) :
    Gives Tryd.prog 47 [.slice A n c, .int .i64 (at_ : Int), .int .i64 (k : Int)] [] w (X := Unit) (fun _ => .tuple #[.int .u64 (v : Int), .bool a]) (fun _ => True) (fun _ => []) := number_k w A n c l hb at_ k ha hk hn (v, a) hr
theorem own_msrD {w0 w : World} {M : Nat → Prop} {H : List Asn} {x : Ms} {p : Mp} (hS : St w0 M H w) (h1 : row 46 3 p.A p.n p.c (cellsL emc p.Q) ∈ H) (h3 : row 3 1 p.cA p.cn p.cc (x.cf.map zv) ∈ H) (hq : ∀ m ∈ p.Q, BsM w m) (hd : Bs w All p.dA p.dn p.dc x.dt) (hwf : WfM x p) : MsR w x p := by
  have f1 := row_facts (hS.at_ h1)
  have f3 := row_facts (hS.at_ h3)
  exact ⟨hwf.1, Nat.le_trans f1.1 f1.2.1, hwf.2, (Rd.of_own (hS.at_ h1)).more fun _ _ => trivial, hq, hwf.3, Nat.le_trans f3.1 f3.2.1, (Rd.of_own (hS.at_ h3)).more fun _ _ => trivial, hd⟩
theorem en_built3 (t : Nat) (k : Int) (A : Option Addr) (n c : Nat) : Tryd.prog.built 46 [(0, .int .u64 (t : Int)), (1, .int .i64 k), (2, .slice A n c)] = some [.int .u64 (t : Int), .int .i64 k, .slice A n c].toArray := by kernel_rfl
set_option maxRecDepth 100000 in
set_option maxHeartbeats 4000000 in
theorem decodeD_any (w : World) (A : Option Addr) (n c : Nat) (b : List UInt8) (hb : Bs w All A n c b) (hn : n ≤ 90000) :
    Gives Tryd.prog 18 [.slice A n c] [] w (X := Ms × Mp × Int) (fun y => .tuple #[.agg (mgc y.1 y.2.1).toArray, .int .i64 y.2.2]) (fun y => WfM y.1 y.2.1 ∧ (∀ w', Bs w' All A n c b → ∀ e ∈ y.2.1.Q, BsM w' e) ∧ (∀ w', Bs w' All A n c b → Bs w' All y.2.1.dA y.2.1.dn y.2.1.dc y.1.dt) ∧ ((y.2.2 = 0 ∧ DecP b y.1 ∧ ∀ x, DecP b x → y.1 = x) ∨ (y.2.2 = (if n < 32 then 7 else 231) ∧ y.1 = Z0 ∧ y.2.1 = P0 ∧ ∀ x, ¬ DecP b x))) (fun y => [row 46 3 y.2.1.A y.2.1.n y.2.1.c (cellsL emc y.2.1.Q), row 3 1 y.2.1.cA y.2.1.cn y.2.1.cc (y.1.cf.map zv)]) := by
  refine gives_C Tryd.func18 rfl Tryd.ntmps18 Tryd.results18 (by simp) (St.enter w) (fun B hB => ?_)
  have hbl := hb.len
  have hcap := hb.cap
  rcases Nat.lt_or_ge n 32 with h32 | h32
  · rw [if_pos h32] at hB
    focus (refine S_seq rfl ?_; refine S_region rfl rfl ?_; (refine R_eff (E_alloca rfl mg_zero) ?_ rfl rfl; rintro _ _ ⟨b2, rfl, rfl⟩); refine R_p rfl ?_ rfl rfl; refine R_nil ?_; refine S_seq rfl ?_; refine S_seq rfl (S_region rfl rfl ?_); (iterate 2 refine R_p rfl ?_ rfl rfl); refine R_take (T_decT rfl (by omega)) ?_ rfl rfl; refine R_nil ?_; refine S_true rfl rfl ?_; refine S_seq rfl (S_region rfl rfl ?_); refine R_take (T_build0 mg_built0) ?_ rfl rfl; (refine R_eff0 (E_storew (cs := mgc Z0 P0) (ds := mgc Z0 P0) rfl rfl rfl rfl (mgc_one _ _) rfl) ?_ rfl; rintro _ _ rfl); refine R_p rfl ?_ rfl rfl; refine R_nil ?_)
    exact hB _ _ _ _ _ rfl (.cell rfl rfl rfl inferInstance rfl (.tmp rfl .nil)) fun w' hS => ⟨(Z0, P0, 7), rfl, ⟨⟨rfl, rfl, rfl, rfl⟩, (fun w' hw e he => absurd he (by simp)), fun w' hw => Bs.nil _ _, .inr ⟨rfl, rfl, rfl, fun x hx => by have := decP_len hx; omega⟩⟩, sub_st (H' := [row 46 3 none 0 0 [], row 3 1 none 0 0 []]) w' ((hS.nilrow 46 3).nilrow 3 1)⟩
  obtain ⟨N, rfl⟩ : ∃ N, n = N + 32 := ⟨n - 32, by omega⟩
  rw [if_neg (by omega)] at hB
  obtain ⟨f, hf⟩ : ∃ f, b.take N = f := ⟨_, rfl⟩
  obtain ⟨e, he⟩ : ∃ e, b.drop N = e := ⟨_, rfl⟩
  have hbf : b = f ++ e := by rw [← hf, ← he, List.take_append_drop]
  have hfl : f.length = N := by rw [← hf, List.length_take]; omega
  have hel : e.length = 32 := by rw [← he, List.length_drop]; omega
  have hbF : Bs w All A N c f := hf ▸ hb.head (by omega)
  have hfw : ∀ w', Bs w' All A (N + 32) c (f ++ e) → Bs w' All A N c f := fun w' hw => by have h9 := hw.head (k := N) (by omega); rw [List.take_left' hfl] at h9; exact h9
  have hbE : Bs w All (cutP A c N 1) (N + 32 - N) (c - N) e := he ▸ hb.cutP (by omega)
  rw [hbf] at hB
  obtain ⟨r, hr⟩ : ∃ r, decide (sumL f = e) = r := ⟨_, rfl⟩
  focus (refine S_seq rfl ?_; refine S_region rfl rfl ?_; (refine R_eff (E_alloca rfl mg_zero) ?_ rfl rfl; rintro _ _ ⟨b2, rfl, rfl⟩); refine R_p rfl ?_ rfl rfl; refine R_nil ?_; refine S_seq rfl ?_; refine S_seq rfl (S_region rfl rfl ?_); (iterate 2 refine R_p rfl ?_ rfl rfl); refine R_take (T_decF rfl (by omega)) ?_ rfl rfl; refine R_nil ?_; refine S_false rfl rfl ?_; refine S_skip rfl ?_; refine S_seq rfl (S_region rfl rfl ?_); (iterate 3 refine R_p rfl ?_ rfl rfl); refine R_take (T_subE (p := N + 32) (q := 32) (r := N) (by omega) rfl rfl (by omega) (by unfold fits; omega)) ?_ rfl rfl; refine R_take (T_slhN (q := N) rfl rfl rfl rfl rfl (by omega)) ?_ rfl rfl; refine R_p rfl ?_ rfl rfl; refine R_nil (S_seq rfl (S_region rfl rfl ?_)); refine R_p rfl ?_ rfl rfl; (refine R_eff (E_hv0 (f := 34) ⟨_, Tryd.func34, rfl, by kernel_rfl⟩ (fun w hS => refsum_any w A N c f All (hbF.keep hS.kpO) (by omega)) rfl rfl (fun _ => rfl)) ?_ rfl rfl; rintro _ _ ⟨_, rfl, _, rfl⟩); (refine R_eff (E_alloca rfl noId_alloc) ?_ rfl rfl; rintro _ _ ⟨b5, rfl, rfl⟩); (refine R_eff0 (E_storew (cs := noId.map bv) (ds := (sumL f).map bv) rfl rfl rfl (by rw [List.length_map, sumL_len]; rfl) (bv_ones _) (by rw [List.length_map, List.length_map, sumL_len]; rfl)) ?_ rfl; rintro _ _ rfl); refine R_nil ?_; refine S_seq rfl ?_; refine S_seq rfl ?_)
  cases r
  · skip
    refine S_draw (_) (fun _ h => h) (by kernel_rfl) rfl (by kernel_rfl) (by kernel_rfl : _ = 13) ?_
    refine D_take 0 rfl (T_slarr rfl rfl rfl rfl) ?_ rfl rfl (by kernel_rfl) (by kernel_rfl)
    refine D_take 1 rfl (pev_ok rfl) ?_ rfl rfl (by kernel_rfl) (by kernel_rfl)
    refine D_take 2 rfl (pev_ok rfl) ?_ rfl rfl (by kernel_rfl) (by kernel_rfl)
    refine D_take 3 rfl (pev_ok rfl) ?_ rfl rfl (by kernel_rfl) (by kernel_rfl)
    (refine D_take 4 rfl (T_subE (p := N + 32) (q := 32) (r := N) (by omega) rfl rfl (by omega) (by unfold fits; omega)) ?_ rfl rfl (by kernel_rfl) (by kernel_rfl))
    refine D_take 5 rfl (T_slN (sz := 1) (q := N) rfl rfl rfl rfl rfl rfl (by omega) (by omega)) ?_ rfl rfl (by kernel_rfl) (by kernel_rfl)
    refine D_one 6 rfl (E_hv0 (f := 15) ⟨_, Tryd.func15, rfl, by kernel_rfl⟩ (fun w hS => s01_k w (some ⟨b5, 0, none⟩) (cutP A c N 1) 32 32 (N + 32 - N) (c - N) (sumL f) e ((Src.pt (g := b5) (l := sumL f) (sumL_len f) (by decide) (by decide) (fun j u hj => by rw [Nat.zero_add]; exact hj)).bs w hS) (hbE.keep hS.kpO) _ hr) rfl rfl (fun _ => rfl)) ?_ rfl rfl (by kernel_rfl)
    rintro _ _ ⟨_, rfl, _, rfl⟩
    refine Nx_same sub_st ?_
    refine D_take 7 rfl (T_not rfl) ?_ rfl rfl (by kernel_rfl) (by kernel_rfl)
    refine D_take 8 rfl (T_decT rfl (by omega)) ?_ rfl rfl (by kernel_rfl) (by kernel_rfl)
    refine D_skip 9 rfl ?_ rfl rfl (by kernel_rfl) (by kernel_rfl)
    refine D_skip 10 rfl ?_ rfl rfl (by kernel_rfl) (by kernel_rfl)
    refine D_skip 11 rfl ?_ rfl rfl (by kernel_rfl) (by kernel_rfl)
    refine D_take 12 rfl (T_decT rfl (by omega)) ?_ rfl rfl (by kernel_rfl) (by kernel_rfl)
    refine D_done ?_ (by kernel_rfl)
    skip
    focus (refine S_true rfl rfl ?_; refine S_seq rfl (S_region rfl rfl ?_); refine R_take (T_build0 mg_built0) ?_ rfl rfl; (refine R_eff0 (E_storew (cs := mgc Z0 P0) (ds := mgc Z0 P0) rfl rfl rfl rfl (mgc_one _ _) rfl) ?_ rfl; rintro _ _ rfl); refine R_p rfl ?_ rfl rfl; refine R_nil ?_)
    exact hB _ _ _ _ _ rfl (.cell rfl rfl rfl inferInstance rfl (.tmp rfl .nil)) fun w' hS => ⟨(Z0, P0, 231), rfl, ⟨⟨rfl, rfl, rfl, rfl⟩, (fun w' hw e he => absurd he (by simp)), fun w' hw => Bs.nil _ _, .inr ⟨rfl, rfl, rfl, fun x hx => of_decide_eq_false hr (decP_f hel hx).1.symm⟩⟩, sub_st (H' := [row 46 3 none 0 0 [], row 3 1 none 0 0 []]) w' ((hS.nilrow 46 3).nilrow 3 1)⟩
  have hse : e = sumL f := (of_decide_eq_true hr).symm
  rcases Nat.lt_or_ge N 11 with h11 | h11
  · skip
    refine S_draw (_) (fun _ h => h) (by kernel_rfl) rfl (by kernel_rfl) (by kernel_rfl : _ = 13) ?_
    refine D_take 0 rfl (T_slarr rfl rfl rfl rfl) ?_ rfl rfl (by kernel_rfl) (by kernel_rfl)
    refine D_take 1 rfl (pev_ok rfl) ?_ rfl rfl (by kernel_rfl) (by kernel_rfl)
    refine D_take 2 rfl (pev_ok rfl) ?_ rfl rfl (by kernel_rfl) (by kernel_rfl)
    refine D_take 3 rfl (pev_ok rfl) ?_ rfl rfl (by kernel_rfl) (by kernel_rfl)
    (refine D_take 4 rfl (T_subE (p := N + 32) (q := 32) (r := N) (by omega) rfl rfl (by omega) (by unfold fits; omega)) ?_ rfl rfl (by kernel_rfl) (by kernel_rfl))
    refine D_take 5 rfl (T_slN (sz := 1) (q := N) rfl rfl rfl rfl rfl rfl (by omega) (by omega)) ?_ rfl rfl (by kernel_rfl) (by kernel_rfl)
    refine D_one 6 rfl (E_hv0 (f := 15) ⟨_, Tryd.func15, rfl, by kernel_rfl⟩ (fun w hS => s01_k w (some ⟨b5, 0, none⟩) (cutP A c N 1) 32 32 (N + 32 - N) (c - N) (sumL f) e ((Src.pt (g := b5) (l := sumL f) (sumL_len f) (by decide) (by decide) (fun j u hj => by rw [Nat.zero_add]; exact hj)).bs w hS) (hbE.keep hS.kpO) _ hr) rfl rfl (fun _ => rfl)) ?_ rfl rfl (by kernel_rfl)
    rintro _ _ ⟨_, rfl, _, rfl⟩
    refine Nx_same sub_st ?_
    refine D_take 7 rfl (T_not rfl) ?_ rfl rfl (by kernel_rfl) (by kernel_rfl)
    refine D_take 8 rfl (pev_ok rfl) ?_ rfl rfl (by kernel_rfl) (by kernel_rfl)
    refine D_take 9 rfl (pev_ok rfl) ?_ rfl rfl (by kernel_rfl) (by kernel_rfl)
    refine D_take 10 rfl (pev_ok rfl) ?_ rfl rfl (by kernel_rfl) (by kernel_rfl)
    refine D_take 11 rfl (T_decT rfl (by omega)) ?_ rfl rfl (by kernel_rfl) (by kernel_rfl)
    refine D_take 12 rfl (T_decT rfl (by omega)) ?_ rfl rfl (by kernel_rfl) (by kernel_rfl)
    refine D_done ?_ (by kernel_rfl)
    skip
    focus (refine S_true rfl rfl ?_; refine S_seq rfl (S_region rfl rfl ?_); refine R_take (T_build0 mg_built0) ?_ rfl rfl; (refine R_eff0 (E_storew (cs := mgc Z0 P0) (ds := mgc Z0 P0) rfl rfl rfl rfl (mgc_one _ _) rfl) ?_ rfl; rintro _ _ rfl); refine R_p rfl ?_ rfl rfl; refine R_nil ?_)
    exact hB _ _ _ _ _ rfl (.cell rfl rfl rfl inferInstance rfl (.tmp rfl .nil)) fun w' hS => ⟨(Z0, P0, 231), rfl, ⟨⟨rfl, rfl, rfl, rfl⟩, (fun w' hw e he => absurd he (by simp)), fun w' hw => Bs.nil _ _, .inr ⟨rfl, rfl, rfl, fun x hx => by have h9 := decP_f hel hx; have := plain_short h9.2.1; rw [h9.2.2.2] at this; omega⟩⟩, sub_st (H' := [row 46 3 none 0 0 [], row 3 1 none 0 0 []]) w' ((hS.nilrow 46 3).nilrow 3 1)⟩
  have hne : 0 < N → A ≠ none := fun h0 => by obtain ⟨ad, e, _⟩ := hbF.rd.2 h0; rw [e]; simp
  have hu0 := UInt8.toNat_lt (f.getD 0 0)
  have hu1 := UInt8.toNat_lt (f.getD 1 0)
  have hu2 := UInt8.toNat_lt (f.getD 2 0)
  have hnum : num64 ((f.drop 3).take 8) = num ((f.drop 3).take 8) := Nat.mod_eq_of_lt (num_le _ 8 (by rw [List.length_take]; omega))
  refine S_draw (_) (fun _ h => h) (by kernel_rfl) rfl (by kernel_rfl) (by kernel_rfl : _ = 13) ?_
  refine D_take 0 rfl (T_slarr rfl rfl rfl rfl) ?_ rfl rfl (by kernel_rfl) (by kernel_rfl)
  refine D_take 1 rfl (pev_ok rfl) ?_ rfl rfl (by kernel_rfl) (by kernel_rfl)
  refine D_take 2 rfl (pev_ok rfl) ?_ rfl rfl (by kernel_rfl) (by kernel_rfl)
  refine D_take 3 rfl (pev_ok rfl) ?_ rfl rfl (by kernel_rfl) (by kernel_rfl)
  (refine D_take 4 rfl (T_subE (p := N + 32) (q := 32) (r := N) (by omega) rfl rfl (by omega) (by unfold fits; omega)) ?_ rfl rfl (by kernel_rfl) (by kernel_rfl))
  refine D_take 5 rfl (T_slN (sz := 1) (q := N) rfl rfl rfl rfl rfl rfl (by omega) (by omega)) ?_ rfl rfl (by kernel_rfl) (by kernel_rfl)
  refine D_one 6 rfl (E_hv0 (f := 15) ⟨_, Tryd.func15, rfl, by kernel_rfl⟩ (fun w hS => s01_k w (some ⟨b5, 0, none⟩) (cutP A c N 1) 32 32 (N + 32 - N) (c - N) (sumL f) e ((Src.pt (g := b5) (l := sumL f) (sumL_len f) (by decide) (by decide) (fun j u hj => by rw [Nat.zero_add]; exact hj)).bs w hS) (hbE.keep hS.kpO) _ hr) rfl rfl (fun _ => rfl)) ?_ rfl rfl (by kernel_rfl)
  rintro _ _ ⟨_, rfl, _, rfl⟩
  refine Nx_same sub_st ?_
  refine D_take 7 rfl (T_not rfl) ?_ rfl rfl (by kernel_rfl) (by kernel_rfl)
  refine D_take 8 rfl (pev_ok rfl) ?_ rfl rfl (by kernel_rfl) (by kernel_rfl)
  refine D_take 9 rfl (pev_ok rfl) ?_ rfl rfl (by kernel_rfl) (by kernel_rfl)
  refine D_take 10 rfl (pev_ok rfl) ?_ rfl rfl (by kernel_rfl) (by kernel_rfl)
  refine D_take 11 rfl (T_decF rfl (by omega)) ?_ rfl rfl (by kernel_rfl) (by kernel_rfl)
  refine D_take 12 rfl (pev_ok rfl) ?_ rfl rfl (by kernel_rfl) (by kernel_rfl)
  refine D_done ?_ (by kernel_rfl)
  skip
  focus (refine S_false rfl rfl ?_; refine S_skip rfl ?_; refine S_seq rfl ?_)
  refine S_cut (X := (Nat × Nat × Nat × Nat) × Nat) (fun y => [(2, .pointer (some ⟨b2, 0, none⟩)), (4, .slice A N c), (6, .pointer (some ⟨y.2, 0, none⟩))]) (fun y => [pt b2 31 (mgc Z0 P0), pt y.2 31 (mgc ⟨(y.1.1 : Int), (y.1.2.1 : Int), (y.1.2.2.1 : Int), y.1.2.2.2, (0, 0), [], 0, false, 0, [], []⟩ P0)]) (fun y => AgR f tr0 r0 ⟨(y.1.1 : Int), (y.1.2.1 : Int), (y.1.2.2.1 : Int), y.1.2.2.2, (0, 0), [], 0, false, 0, [], []⟩ 11 true ∧ y.1.2.2.2 < 18446744073709551616) (fun J hJ => ?_) (fun y hy => ?_)
  · skip
    refine S_draw (_) (fun _ h => h) (by kernel_rfl) rfl (by kernel_rfl) (by kernel_rfl : _ = 18) ?_
    refine D_take 0 rfl (pev_ok rfl) ?_ rfl rfl (by kernel_rfl) (by kernel_rfl)
    refine D_take 1 rfl (T_ixN rfl rfl rfl rfl rfl rfl (hne (by omega)) (by omega)) ?_ rfl rfl (by kernel_rfl) (by kernel_rfl)
    refine D_take 2 rfl (T_ldb (j := 0) rfl rfl rfl (Src.old hbF (fun k _ => noOwns k)) (by omega)) ?_ rfl rfl (by kernel_rfl) (by kernel_rfl)
    (refine D_take 3 rfl (T_convf rfl rfl rfl rfl (by unfold fits; omega)) ?_ rfl rfl (by kernel_rfl) (by kernel_rfl))
    refine D_take 4 rfl (pev_ok rfl) ?_ rfl rfl (by kernel_rfl) (by kernel_rfl)
    refine D_take 5 rfl (T_ixN rfl rfl rfl rfl rfl rfl (hne (by omega)) (by omega)) ?_ rfl rfl (by kernel_rfl) (by kernel_rfl)
    refine D_take 6 rfl (T_ldb (j := 1) rfl rfl rfl (Src.old hbF (fun k _ => noOwns k)) (by omega)) ?_ rfl rfl (by kernel_rfl) (by kernel_rfl)
    (refine D_take 7 rfl (T_convf rfl rfl rfl rfl (by unfold fits; omega)) ?_ rfl rfl (by kernel_rfl) (by kernel_rfl))
    refine D_take 8 rfl (pev_ok rfl) ?_ rfl rfl (by kernel_rfl) (by kernel_rfl)
    refine D_take 9 rfl (T_ixN rfl rfl rfl rfl rfl rfl (hne (by omega)) (by omega)) ?_ rfl rfl (by kernel_rfl) (by kernel_rfl)
    refine D_take 10 rfl (T_ldb (j := 2) rfl rfl rfl (Src.old hbF (fun k _ => noOwns k)) (by omega)) ?_ rfl rfl (by kernel_rfl) (by kernel_rfl)
    (refine D_take 11 rfl (T_convf rfl rfl rfl rfl (by unfold fits; omega)) ?_ rfl rfl (by kernel_rfl) (by kernel_rfl))
    refine D_take 12 rfl (pev_ok rfl) ?_ rfl rfl (by kernel_rfl) (by kernel_rfl)
    refine D_take 13 rfl (T_slbE (u := 8) (q := 3) (r := 11) (by omega) rfl rfl rfl rfl rfl rfl rfl (by omega) (by omega)) ?_ rfl rfl (by kernel_rfl) (by kernel_rfl)
    refine D_two 14 16 (by decide) rfl rfl (E_number (A := cutP A c 3 1) (m := 8) (c := c - 3) (l := (f.drop 3).take 8) rfl (Src.old (part_at hbF (by omega)) (fun k _ => noOwns k))) (E_alloca rfl mg_zero) ?_ ?_ rfl rfl rfl rfl (by kernel_rfl)
    · rintro _ _ ⟨rfl, rfl⟩
      refine Nx_same sub_st ?_
      refine D_take 15 rfl (T_build4 rfl rfl rfl rfl (mg_built4 _ _ _ _)) ?_ rfl rfl (by kernel_rfl) (by kernel_rfl)
      refine D_one 16 rfl (E_alloca rfl mg_zero) ?_ rfl rfl (by kernel_rfl)
      rintro _ _ ⟨b6, rfl, rfl⟩
      refine Nx_same sub_st ?_
      refine D_one 17 rfl (E_storew (gb := b6) (cs := mgc Z0 P0) (ds := mgc ⟨((f.getD 0 0).toNat : Nat), ((f.getD 1 0).toNat : Nat), ((f.getD 2 0).toNat : Nat), num64 ((f.drop 3).take 8), (0, 0), [], 0, false, 0, [], []⟩ P0) rfl rfl rfl rfl (mgc_one _ _) rfl) ?_ rfl rfl (by kernel_rfl)
      rintro _ _ rfl
      refine Nx_pivot (by kernel_rfl) ?_
      refine D_done ?_ (by kernel_rfl)
      exact hJ (((f.getD 0 0).toNat, (f.getD 1 0).toNat, (f.getD 2 0).toNat, num64 ((f.drop 3).take 8)), b6) _ _ ⟨by dsimp only; rw [hnum]; exact ar_head f, by dsimp only; rw [hnum]; exact num_le _ 8 (by rw [List.length_take]; omega)⟩ (Sub.cons rfl (Sub.cons rfl (Sub.cons rfl Sub.nil))) sub_st
    · rintro _ _ ⟨b6, rfl, rfl⟩
      refine Nx_same sub_st ?_
      refine D_one 14 rfl (E_number (A := cutP A c 3 1) (m := 8) (c := c - 3) (l := (f.drop 3).take 8) rfl (Src.old (part_at hbF (by omega)) (fun k _ => noOwns k))) ?_ rfl rfl (by kernel_rfl)
      rintro _ _ ⟨rfl, rfl⟩
      refine Nx_same sub_st ?_
      refine D_take 15 rfl (T_build4 rfl rfl rfl rfl (mg_built4 _ _ _ _)) ?_ rfl rfl (by kernel_rfl) (by kernel_rfl)
      refine D_one 17 rfl (E_storew (gb := b6) (cs := mgc Z0 P0) (ds := mgc ⟨((f.getD 0 0).toNat : Nat), ((f.getD 1 0).toNat : Nat), ((f.getD 2 0).toNat : Nat), num64 ((f.drop 3).take 8), (0, 0), [], 0, false, 0, [], []⟩ P0) rfl rfl rfl rfl (mgc_one _ _) rfl) ?_ rfl rfl (by kernel_rfl)
      rintro _ _ rfl
      refine Nx_pivot (by kernel_rfl) ?_
      refine D_done ?_ (by kernel_rfl)
      exact hJ (((f.getD 0 0).toNat, (f.getD 1 0).toNat, (f.getD 2 0).toNat, num64 ((f.drop 3).take 8)), b6) _ _ ⟨by dsimp only; rw [hnum]; exact ar_head f, by dsimp only; rw [hnum]; exact num_le _ 8 (by rw [List.length_take]; omega)⟩ (Sub.cons rfl (Sub.cons rfl (Sub.cons rfl Sub.nil))) sub_st
  obtain ⟨⟨kk, ff, tt, tm⟩, b6⟩ := y
  obtain ⟨hag, htm⟩ := hy
  dsimp only at hag htm ⊢
  refine RS_mem (fun w hS => ((hS.nilrow 46 3).nilrow 3 1)) ?_
  obtain ⟨K0, hK0⟩ : ∃ z : Int, (kk : Int) = z := ⟨_, rfl⟩
  rw [hK0] at hag ⊢
  refine S_seq rfl ?_
  refine S_region rfl rfl ?_
  refine R_p rfl ?_ rfl rfl
  refine R_nil ?_
  refine S_seq rfl ?_
  refine S_region rfl rfl ?_
  refine R_p rfl ?_ rfl rfl
  refine R_nil ?_
  refine S_seq rfl ?_
  refine S_region rfl rfl ?_
  refine R_p rfl ?_ rfl rfl
  refine R_take (T_load rfl rfl rfl rfl) ?_ rfl rfl
  refine R_p rfl ?_ rfl rfl
  refine R_nil ?_
  obtain ⟨y, hyd⟩ : ∃ y : Ms × Mp × Nat × Bool, y = (⟨K0, ff, tt, tm, (0, 0), [], 0, false, 0, [], []⟩, P0, 11, true) := ⟨_, rfl⟩
  have hy : y.2.1 = P0 ∧ y.1.K = K0 ∧ AgR f tr0 r0 y.1 y.2.2.1 y.2.2.2 ∧ MsU y.1 ∧ WfM y.1 y.2.1 ∧ (∀ w', Bs w' All A N c f → ∀ e ∈ y.2.1.Q, BsM w' e) ∧ (∀ w', Bs w' All A N c f → Bs w' All y.2.1.dA y.2.1.dn y.2.1.dc y.1.dt) ∧ (y.2.2.2 = true → y.2.2.1 ≤ N) ∧ y.2.2.1 = 11 ∧ y.2.2.2 = true := by
    subst hyd
    exact ⟨rfl, rfl, hag, ⟨htm, (by show 0 < 18446744073709551616; decide), (by show 0 < 18446744073709551616; decide), (by show 0 < 18446744073709551616; decide), (by show 0 < 18446744073709551616; decide), fun e he => absurd he (by simp)⟩, ⟨rfl, rfl, rfl, rfl⟩, (fun w' hw e he => absurd he (by simp)), fun w' hw => Bs.nil _ _, fun _ => h11, rfl, rfl⟩
  refine RS_sub (T' := [(2, .pointer (some ⟨b2, 0, none⟩)), (4, .slice A N c), (6, .pointer (some ⟨b6, 0, none⟩)), (7, .int .i64 (y.2.2.1 : Int)), (8, .bool y.2.2.2), (9, .int .i64 K0)]) (by subst hyd; exact (Sub.cons rfl (Sub.cons rfl (Sub.cons rfl (Sub.cons rfl (Sub.cons rfl (Sub.cons rfl Sub.nil))))))) ?_
  refine RS_mem (H' := [pt b2 31 (mgc Z0 P0), pt b6 31 (mgc y.1 y.2.1), row 46 3 y.2.1.A y.2.1.n y.2.1.c (cellsL emc y.2.1.Q), row 3 1 y.2.1.cA y.2.1.cn y.2.1.cc (y.1.cf.map zv)]) (by subst hyd; exact fun w' hS => sub_st (H' := [pt b2 31 (mgc Z0 P0), pt b6 31 (mgc ⟨K0, ff, tt, tm, (0, 0), [], 0, false, 0, [], []⟩ P0), row 46 3 none 0 0 [], row 3 1 none 0 0 []]) w' hS) ?_
  clear hyd hag htm hK0 hu0 hu1 hu2
  obtain ⟨m, p, at_, g⟩ := y
  dsimp only at hy ⊢
  obtain ⟨hpx, hK, hag, hmu, hwf, hbq, hbd, hat, rfl, rfl⟩ := hy
  obtain ⟨rb, hrb⟩ : ∃ r, (true && hasB K0 1) = r := ⟨_, rfl⟩
  refine S_seq rfl ?_
  refine S_seq rfl ?_
  refine S_cut (X := Unit) (fun _ => [(2, .pointer (some ⟨b2, 0, none⟩)), (4, .slice A N c), (6, .pointer (some ⟨b6, 0, none⟩)), (7, .int .i64 (11 : Int)), (8, .bool true), (9, .int .i64 K0), (86, .bool rb)]) (fun _ => [pt b2 31 (mgc Z0 P0), pt b6 31 (mgc m p), row 46 3 p.A p.n p.c (cellsL emc p.Q), row 3 1 p.cA p.cn p.cc (m.cf.map zv)]) (fun _ => True) (fun J hJ => ?_) (fun _ _ => ?_)
  · rcases (by omega : K0 = 1 ∨ K0 = 3 ∨ K0 = 5 ∨ K0 = 7 ∨ (K0 ≠ 1 ∧ K0 ≠ 3 ∧ K0 ≠ 5 ∧ K0 ≠ 7)) with h | h | h | h | h
    · obtain rfl : rb = true := by rw [← hrb, hb1]; simp [h]
      focus (refine S_region rfl rfl ?_; refine R_p rfl ?_ rfl rfl; refine R_take (T_decT rfl (by omega)) ?_ rfl rfl; refine R_p rfl ?_ rfl rfl; (iterate 2 refine R_skip ?_ rfl rfl); (iterate 2 refine R_p rfl ?_ rfl rfl); (iterate 2 refine R_skip ?_ rfl rfl); (iterate 2 refine R_p rfl ?_ rfl rfl); (iterate 2 refine R_skip ?_ rfl rfl); refine R_p rfl ?_ rfl rfl; refine R_nil ?_)
      exact hJ () _ _ trivial (Sub.cons rfl (Sub.cons rfl (Sub.cons rfl (Sub.cons rfl (Sub.cons rfl (Sub.cons rfl (Sub.cons rfl Sub.nil))))))) sub_st
    · obtain rfl : rb = true := by rw [← hrb, hb1]; simp [h]
      focus (refine S_region rfl rfl ?_; refine R_p rfl ?_ rfl rfl; refine R_take (T_decF rfl (by omega)) ?_ rfl rfl; (iterate 2 refine R_p rfl ?_ rfl rfl); refine R_take (T_decT rfl (by omega)) ?_ rfl rfl; (iterate 2 refine R_p rfl ?_ rfl rfl); (iterate 2 refine R_skip ?_ rfl rfl); (iterate 2 refine R_p rfl ?_ rfl rfl); (iterate 2 refine R_skip ?_ rfl rfl); refine R_p rfl ?_ rfl rfl; refine R_nil ?_)
      exact hJ () _ _ trivial (Sub.cons rfl (Sub.cons rfl (Sub.cons rfl (Sub.cons rfl (Sub.cons rfl (Sub.cons rfl (Sub.cons rfl Sub.nil))))))) sub_st
    · obtain rfl : rb = true := by rw [← hrb, hb1]; simp [h]
      focus (refine S_region rfl rfl ?_; refine R_p rfl ?_ rfl rfl; refine R_take (T_decF rfl (by omega)) ?_ rfl rfl; (iterate 2 refine R_p rfl ?_ rfl rfl); refine R_take (T_decF rfl (by omega)) ?_ rfl rfl; (iterate 3 refine R_p rfl ?_ rfl rfl); refine R_take (T_decT rfl (by omega)) ?_ rfl rfl; (iterate 2 refine R_p rfl ?_ rfl rfl); (iterate 2 refine R_skip ?_ rfl rfl); refine R_p rfl ?_ rfl rfl; refine R_nil ?_)
      exact hJ () _ _ trivial (Sub.cons rfl (Sub.cons rfl (Sub.cons rfl (Sub.cons rfl (Sub.cons rfl (Sub.cons rfl (Sub.cons rfl Sub.nil))))))) sub_st
    · obtain rfl : rb = true := by rw [← hrb, hb1]; simp [h]
      focus (refine S_region rfl rfl ?_; refine R_p rfl ?_ rfl rfl; refine R_take (T_decF rfl (by omega)) ?_ rfl rfl; (iterate 2 refine R_p rfl ?_ rfl rfl); refine R_take (T_decF rfl (by omega)) ?_ rfl rfl; (iterate 3 refine R_p rfl ?_ rfl rfl); refine R_take (T_decF rfl (by omega)) ?_ rfl rfl; (iterate 3 refine R_p rfl ?_ rfl rfl); refine R_take (T_decT rfl (by omega)) ?_ rfl rfl; refine R_p rfl ?_ rfl rfl; refine R_nil ?_)
      exact hJ () _ _ trivial (Sub.cons rfl (Sub.cons rfl (Sub.cons rfl (Sub.cons rfl (Sub.cons rfl (Sub.cons rfl (Sub.cons rfl Sub.nil))))))) sub_st
    · obtain rfl : rb = false := by rw [← hrb, hb1]; simp [h]
      focus (refine S_region rfl rfl ?_; refine R_p rfl ?_ rfl rfl; refine R_take (T_decF rfl (by omega)) ?_ rfl rfl; (iterate 2 refine R_p rfl ?_ rfl rfl); refine R_take (T_decF rfl (by omega)) ?_ rfl rfl; (iterate 3 refine R_p rfl ?_ rfl rfl); refine R_take (T_decF rfl (by omega)) ?_ rfl rfl; (iterate 3 refine R_p rfl ?_ rfl rfl); refine R_take (T_decF rfl (by omega)) ?_ rfl rfl; refine R_p rfl ?_ rfl rfl; refine R_nil ?_)
      exact hJ () _ _ trivial (Sub.cons rfl (Sub.cons rfl (Sub.cons rfl (Sub.cons rfl (Sub.cons rfl (Sub.cons rfl (Sub.cons rfl Sub.nil))))))) sub_st
  refine S_cut (X := (Ms × Mp × Nat × Bool)) (fun y => [(2, .pointer (some ⟨b2, 0, none⟩)), (4, .slice A N c), (6, .pointer (some ⟨b6, 0, none⟩)), (7, .int .i64 (y.2.2.1 : Int)), (8, .bool y.2.2.2), (9, .int .i64 K0)]) (fun y => [pt b2 31 (mgc Z0 P0), pt b6 31 (mgc y.1 y.2.1), row 46 3 y.2.1.A y.2.1.n y.2.1.c (cellsL emc y.2.1.Q), row 3 1 y.2.1.cA y.2.1.cn y.2.1.cc (y.1.cf.map zv)]) (fun y => y.2.1 = P0 ∧ y.1.K = K0 ∧ AgR f tr1 r1 y.1 y.2.2.1 y.2.2.2 ∧ MsU y.1 ∧ WfM y.1 y.2.1 ∧ (∀ w', Bs w' All A N c f → ∀ e ∈ y.2.1.Q, BsM w' e) ∧ (∀ w', Bs w' All A N c f → Bs w' All y.2.1.dA y.2.1.dn y.2.1.dc y.1.dt) ∧ (y.2.2.2 = true → y.2.2.1 ≤ N)) (fun J hJ => ?_) (fun y hy => ?_)
  · cases rb
    · --@first: T_decT rfl (by omega) ;; T_decF rfl (by omega)
      focus (refine S_false rfl rfl ?_; refine S_skip rfl ?_)
      exact hJ (m, p, 11, true) _ _ ⟨hpx, hK, (ar_pl0 hag (by rw [hK]; exact hrb)), hmu, hwf, hbq, hbd, hat⟩ (Sub.cons rfl (Sub.cons rfl (Sub.cons rfl (Sub.cons rfl (Sub.cons rfl (Sub.cons rfl Sub.nil)))))) sub_st
    · have hb : hasB m.K 1 = true := by rw [hK]; exact hrb
      obtain ⟨⟨v1, a1⟩, hv1⟩ : ∃ r, numR f (11) 8 = r := ⟨_, rfl⟩
      obtain ⟨⟨v2, a2⟩, hv2⟩ : ∃ r, numR f (11 + 8) 8 = r := ⟨_, rfl⟩
      have ha1 : a1 = true → 11 + 8 ≤ f.length := fun e => numR_in (by rw [hv1, e])
      have ha2 : a2 = true → 11 + 8 + 8 ≤ f.length := fun e => numR_in (by rw [hv2, e])
      have hu1 := numR_lt hv1
      have hu2 := numR_lt hv2
      cases a1
      · focus (refine S_true rfl rfl ?_; refine S_seq rfl (S_region rfl rfl ?_); (iterate 2 refine R_p rfl ?_ rfl rfl); (refine R_eff (E_hv0 (f := 47) ⟨_, Tryd.func47, rfl, by kernel_rfl⟩ (fun w hS => number_e w A N c f (hbF.keep hS.kpO) (11) 8 (by omega) (by decide) (by omega) _ _ hv1) rfl rfl (fun _ => rfl)) ?_ rfl rfl; rintro _ _ ⟨_, rfl, _, rfl⟩); (iterate 5 refine R_p rfl ?_ rfl rfl); refine R_nil (S_seq rfl (S_region rfl rfl ?_)); (iterate 2 refine R_p rfl ?_ rfl rfl); refine R_take (T_addN (p := 11) (q := 8) rfl rfl (by unfold fits; omega)) ?_ rfl rfl; (refine R_eff (E_hv0 (f := 47) ⟨_, Tryd.func47, rfl, by kernel_rfl⟩ (fun w hS => number_e w A N c f (hbF.keep hS.kpO) (11 + 8) 8 (by omega) (by decide) (by omega) _ _ hv2) rfl rfl (fun _ => rfl)) ?_ rfl rfl; rintro _ _ ⟨_, rfl, _, rfl⟩); (iterate 5 refine R_p rfl ?_ rfl rfl); refine R_nil (S_seq rfl (S_region rfl rfl ?_)); (iterate 2 refine R_p rfl ?_ rfl rfl); refine R_take (T_build2 rfl rfl (at_built2 _ _)) ?_ rfl rfl; refine R_p rfl ?_ rfl rfl; (refine R_eff0 (E_storeA (gb := b6) (t := 31) (cs := mgc m p) (ds := atc (v1, v2)) (cs' := mgc ⟨m.K, m.F, m.T, m.tm, (v1, v2), m.es, m.cm, m.ok, m.ix, m.cf, m.dt⟩ p) rfl rfl rfl rfl (atc_one _) rfl (by show 4 + 2 ≤ 12; omega)) ?_ rfl; rintro _ _ rfl); refine R_nil (S_seq rfl (S_region rfl rfl ?_)); (iterate 2 refine R_p rfl ?_ rfl rfl); refine R_skip ?_ rfl rfl; (iterate 2 refine R_p rfl ?_ rfl rfl); refine R_nil ?_; refine S_region rfl rfl ?_; refine R_p rfl ?_ rfl rfl; refine R_take (T_addN (p := 11) (q := 16) rfl rfl (by unfold fits; omega)) ?_ rfl rfl; refine R_p rfl ?_ rfl rfl; refine R_nil ?_)
        exact hJ (⟨m.K, m.F, m.T, m.tm, (v1, v2), m.es, m.cm, m.ok, m.ix, m.cf, m.dt⟩, p, (11 + 16), (false && a2)) _ _ ⟨hpx, hK, ar_pl hag hb hv1 hv2, ⟨hmu.tm, hu1, hu2, hmu.cm, hmu.ix, hmu.es⟩, ⟨hwf.1, hwf.2, hwf.3, hwf.4⟩, hbq, hbd, fun e => by cases e⟩ (Sub.cons rfl (Sub.cons rfl (Sub.cons rfl (Sub.cons rfl (Sub.cons rfl (Sub.cons rfl Sub.nil)))))) sub_st
      · focus (refine S_true rfl rfl ?_; refine S_seq rfl (S_region rfl rfl ?_); (iterate 2 refine R_p rfl ?_ rfl rfl); (refine R_eff (E_hv0 (f := 47) ⟨_, Tryd.func47, rfl, by kernel_rfl⟩ (fun w hS => number_e w A N c f (hbF.keep hS.kpO) (11) 8 (by omega) (by decide) (by omega) _ _ hv1) rfl rfl (fun _ => rfl)) ?_ rfl rfl; rintro _ _ ⟨_, rfl, _, rfl⟩); (iterate 2 refine R_p rfl ?_ rfl rfl); refine R_take (T_decT rfl (by omega)) ?_ rfl rfl; refine R_p rfl ?_ rfl rfl; refine R_take (T_decT rfl (by omega)) ?_ rfl rfl; refine R_nil (S_seq rfl (S_region rfl rfl ?_)); (iterate 2 refine R_p rfl ?_ rfl rfl); refine R_take (T_addN (p := 11) (q := 8) rfl rfl (by unfold fits; omega)) ?_ rfl rfl; (refine R_eff (E_hv0 (f := 47) ⟨_, Tryd.func47, rfl, by kernel_rfl⟩ (fun w hS => number_e w A N c f (hbF.keep hS.kpO) (11 + 8) 8 (by omega) (by decide) (by omega) _ _ hv2) rfl rfl (fun _ => rfl)) ?_ rfl rfl; rintro _ _ ⟨_, rfl, _, rfl⟩); (iterate 5 refine R_p rfl ?_ rfl rfl); refine R_nil (S_seq rfl (S_region rfl rfl ?_)); (iterate 2 refine R_p rfl ?_ rfl rfl); refine R_take (T_build2 rfl rfl (at_built2 _ _)) ?_ rfl rfl; refine R_p rfl ?_ rfl rfl; (refine R_eff0 (E_storeA (gb := b6) (t := 31) (cs := mgc m p) (ds := atc (v1, v2)) (cs' := mgc ⟨m.K, m.F, m.T, m.tm, (v1, v2), m.es, m.cm, m.ok, m.ix, m.cf, m.dt⟩ p) rfl rfl rfl rfl (atc_one _) rfl (by show 4 + 2 ≤ 12; omega)) ?_ rfl; rintro _ _ rfl); refine R_nil (S_seq rfl (S_region rfl rfl ?_)); refine R_take (T_decT rfl (by omega)) ?_ rfl rfl; refine R_take (T_decT rfl (by omega)) ?_ rfl rfl; (iterate 3 refine R_p rfl ?_ rfl rfl); refine R_nil ?_; refine S_region rfl rfl ?_; refine R_p rfl ?_ rfl rfl; refine R_take (T_addN (p := 11) (q := 16) rfl rfl (by unfold fits; omega)) ?_ rfl rfl; refine R_p rfl ?_ rfl rfl; refine R_nil ?_)
        exact hJ (⟨m.K, m.F, m.T, m.tm, (v1, v2), m.es, m.cm, m.ok, m.ix, m.cf, m.dt⟩, p, (11 + 16), (true && a2)) _ _ ⟨hpx, hK, ar_pl hag hb hv1 hv2, ⟨hmu.tm, hu1, hu2, hmu.cm, hmu.ix, hmu.es⟩, ⟨hwf.1, hwf.2, hwf.3, hwf.4⟩, hbq, hbd, fun e => by have := ha2 e; show 11 + 16 ≤ N; omega⟩ (Sub.cons rfl (Sub.cons rfl (Sub.cons rfl (Sub.cons rfl (Sub.cons rfl (Sub.cons rfl Sub.nil)))))) sub_st
  clear hpx hag hmu hwf hbq hbd hat hK hrb rb m p
  obtain ⟨m, p, at_, g⟩ := y
  dsimp only at hy ⊢
  obtain ⟨hpx, hK, hag, hmu, hwf, hbq, hbd, hat⟩ := hy
  obtain ⟨rb, hrb⟩ : ∃ r, (g && hasB K0 2) = r := ⟨_, rfl⟩
  refine S_seq rfl ?_
  refine S_seq rfl ?_
  refine S_cut (X := Unit) (fun _ => [(2, .pointer (some ⟨b2, 0, none⟩)), (4, .slice A N c), (6, .pointer (some ⟨b6, 0, none⟩)), (7, .int .i64 (at_ : Int)), (8, .bool g), (9, .int .i64 K0), (122, .bool rb)]) (fun _ => [pt b2 31 (mgc Z0 P0), pt b6 31 (mgc m p), row 46 3 p.A p.n p.c (cellsL emc p.Q), row 3 1 p.cA p.cn p.cc (m.cf.map zv)]) (fun _ => True) (fun J hJ => ?_) (fun _ _ => ?_)
  · cases g
    · obtain rfl : rb = false := by rw [← hrb]; rfl
      focus (refine S_region rfl rfl ?_; (iterate 2 refine R_p rfl ?_ rfl rfl); (iterate 10 refine R_skip ?_ rfl rfl); refine R_p rfl ?_ rfl rfl; refine R_nil ?_)
      exact hJ () _ _ trivial (Sub.cons rfl (Sub.cons rfl (Sub.cons rfl (Sub.cons rfl (Sub.cons rfl (Sub.cons rfl (Sub.cons rfl Sub.nil))))))) sub_st
    · rcases (by omega : K0 = 2 ∨ K0 = 4 ∨ K0 = 6 ∨ (K0 ≠ 2 ∧ K0 ≠ 4 ∧ K0 ≠ 6)) with h | h | h | h
      · obtain rfl : rb = true := by rw [← hrb, hb2]; simp [h]
        focus (refine S_region rfl rfl ?_; (iterate 3 refine R_p rfl ?_ rfl rfl); refine R_take (T_decT rfl (by omega)) ?_ rfl rfl; refine R_p rfl ?_ rfl rfl; (iterate 2 refine R_skip ?_ rfl rfl); (iterate 2 refine R_p rfl ?_ rfl rfl); (iterate 2 refine R_skip ?_ rfl rfl); (iterate 2 refine R_p rfl ?_ rfl rfl); refine R_nil ?_)
        exact hJ () _ _ trivial (Sub.cons rfl (Sub.cons rfl (Sub.cons rfl (Sub.cons rfl (Sub.cons rfl (Sub.cons rfl (Sub.cons rfl Sub.nil))))))) sub_st
      · obtain rfl : rb = true := by rw [← hrb, hb2]; simp [h]
        focus (refine S_region rfl rfl ?_; (iterate 3 refine R_p rfl ?_ rfl rfl); refine R_take (T_decF rfl (by omega)) ?_ rfl rfl; (iterate 2 refine R_p rfl ?_ rfl rfl); refine R_take (T_decT rfl (by omega)) ?_ rfl rfl; (iterate 2 refine R_p rfl ?_ rfl rfl); (iterate 2 refine R_skip ?_ rfl rfl); (iterate 2 refine R_p rfl ?_ rfl rfl); refine R_nil ?_)
        exact hJ () _ _ trivial (Sub.cons rfl (Sub.cons rfl (Sub.cons rfl (Sub.cons rfl (Sub.cons rfl (Sub.cons rfl (Sub.cons rfl Sub.nil))))))) sub_st
      · obtain rfl : rb = true := by rw [← hrb, hb2]; simp [h]
        focus (refine S_region rfl rfl ?_; (iterate 3 refine R_p rfl ?_ rfl rfl); refine R_take (T_decF rfl (by omega)) ?_ rfl rfl; (iterate 2 refine R_p rfl ?_ rfl rfl); refine R_take (T_decF rfl (by omega)) ?_ rfl rfl; (iterate 3 refine R_p rfl ?_ rfl rfl); refine R_take (T_decT rfl (by omega)) ?_ rfl rfl; (iterate 2 refine R_p rfl ?_ rfl rfl); refine R_nil ?_)
        exact hJ () _ _ trivial (Sub.cons rfl (Sub.cons rfl (Sub.cons rfl (Sub.cons rfl (Sub.cons rfl (Sub.cons rfl (Sub.cons rfl Sub.nil))))))) sub_st
      · obtain rfl : rb = false := by rw [← hrb, hb2]; simp [h]
        focus (refine S_region rfl rfl ?_; (iterate 3 refine R_p rfl ?_ rfl rfl); refine R_take (T_decF rfl (by omega)) ?_ rfl rfl; (iterate 2 refine R_p rfl ?_ rfl rfl); refine R_take (T_decF rfl (by omega)) ?_ rfl rfl; (iterate 3 refine R_p rfl ?_ rfl rfl); refine R_take (T_decF rfl (by omega)) ?_ rfl rfl; (iterate 2 refine R_p rfl ?_ rfl rfl); refine R_nil ?_)
        exact hJ () _ _ trivial (Sub.cons rfl (Sub.cons rfl (Sub.cons rfl (Sub.cons rfl (Sub.cons rfl (Sub.cons rfl (Sub.cons rfl Sub.nil))))))) sub_st
  refine S_cut (X := (Ms × Mp × Nat × Bool)) (fun y => [(2, .pointer (some ⟨b2, 0, none⟩)), (4, .slice A N c), (6, .pointer (some ⟨b6, 0, none⟩)), (7, .int .i64 (y.2.2.1 : Int)), (8, .bool y.2.2.2), (9, .int .i64 K0)]) (fun y => [pt b2 31 (mgc Z0 P0), pt b6 31 (mgc y.1 y.2.1), row 46 3 y.2.1.A y.2.1.n y.2.1.c (cellsL emc y.2.1.Q), row 3 1 y.2.1.cA y.2.1.cn y.2.1.cc (y.1.cf.map zv)]) (fun y => y.2.1 = P0 ∧ y.1.K = K0 ∧ AgR f tr2 r2 y.1 y.2.2.1 y.2.2.2 ∧ MsU y.1 ∧ WfM y.1 y.2.1 ∧ (∀ w', Bs w' All A N c f → ∀ e ∈ y.2.1.Q, BsM w' e) ∧ (∀ w', Bs w' All A N c f → Bs w' All y.2.1.dA y.2.1.dn y.2.1.dc y.1.dt) ∧ (y.2.2.2 = true → y.2.2.1 ≤ N)) (fun J hJ => ?_) (fun y hy => ?_)
  · cases rb
    · --@first: T_decT rfl (by omega) ;; T_decF rfl (by omega)
      focus (refine S_false rfl rfl ?_; refine S_skip rfl ?_)
      exact hJ (m, p, at_, g) _ _ ⟨hpx, hK, (ar_ok0 hag (by rw [hK]; exact hrb)), hmu, hwf, hbq, hbd, hat⟩ (Sub.cons rfl (Sub.cons rfl (Sub.cons rfl (Sub.cons rfl (Sub.cons rfl (Sub.cons rfl Sub.nil)))))) sub_st
    · obtain ⟨rfl, hb⟩ : g = true ∧ hasB m.K 2 = true := by rw [hK]; exact (Bool.and_eq_true _ _).mp hrb
      have hat := hat rfl
      obtain ⟨⟨v, a⟩, hv⟩ : ∃ r, numR f (at_) 1 = r := ⟨_, rfl⟩
      focus (refine S_true rfl rfl ?_; refine S_seq rfl (S_region rfl rfl ?_); (iterate 2 refine R_p rfl ?_ rfl rfl); (refine R_eff (E_hv0 (f := 47) ⟨_, Tryd.func47, rfl, by kernel_rfl⟩ (fun w hS => number_e w A N c f (hbF.keep hS.kpO) (at_) 1 (by omega) (by decide) (by omega) _ _ hv) rfl rfl (fun _ => rfl)) ?_ rfl rfl; rintro _ _ ⟨_, rfl, _, rfl⟩); (iterate 5 refine R_p rfl ?_ rfl rfl); refine R_nil (S_seq rfl (S_region rfl rfl ?_)); refine R_p rfl ?_ rfl rfl; refine R_take (T_eqE (r := decide (v = 1)) (decide_eq_decide.2 (by omega)) rfl rfl) ?_ rfl rfl; refine R_p rfl ?_ rfl rfl; (refine R_eff0 (E_storeA1 (gb := b6) (t := 31) (cs := mgc m p) (v := .bool (decide (v = 1))) (cs' := mgc ⟨m.K, m.F, m.T, m.tm, m.pl, m.es, m.cm, decide (v = 1), m.ix, m.cf, m.dt⟩ p) rfl rfl rfl rfl rfl rfl (by show 8 < 12; omega)) ?_ rfl; rintro _ _ rfl); refine R_nil (S_seq rfl (S_region rfl rfl ?_)); (iterate 2 refine R_p rfl ?_ rfl rfl); refine R_nil ?_; refine S_region rfl rfl ?_; refine R_p rfl ?_ rfl rfl; refine R_take (T_addN (p := at_) (q := 1) rfl rfl (by unfold fits; omega)) ?_ rfl rfl; refine R_p rfl ?_ rfl rfl; refine R_nil ?_)
      exact hJ (⟨m.K, m.F, m.T, m.tm, m.pl, m.es, m.cm, decide (v = 1), m.ix, m.cf, m.dt⟩, p, (at_ + 1), a) _ _ ⟨hpx, hK, ar_ok hag hb hv, ⟨hmu.tm, hmu.p1, hmu.p2, hmu.cm, hmu.ix, hmu.es⟩, ⟨hwf.1, hwf.2, hwf.3, hwf.4⟩, hbq, hbd, fun e => by have e : a = true := e; have := numR_in (hv.trans (congrArg (Prod.mk v) e)); show at_ + 1 ≤ N; omega⟩ (Sub.cons rfl (Sub.cons rfl (Sub.cons rfl (Sub.cons rfl (Sub.cons rfl (Sub.cons rfl Sub.nil)))))) sub_st
  clear hpx hag hmu hwf hbq hbd hat hK hrb rb m p at_ g
  obtain ⟨m, p, at_, g⟩ := y
  dsimp only at hy ⊢
  obtain ⟨hpx, hK, hag, hmu, hwf, hbq, hbd, hat⟩ := hy
  obtain ⟨rb, hrb⟩ : ∃ r, (g && hasB K0 4) = r := ⟨_, rfl⟩
  refine S_seq rfl ?_
  refine S_seq rfl ?_
  refine S_cut (X := Unit) (fun _ => [(2, .pointer (some ⟨b2, 0, none⟩)), (4, .slice A N c), (6, .pointer (some ⟨b6, 0, none⟩)), (7, .int .i64 (at_ : Int)), (8, .bool g), (9, .int .i64 K0), (139, .bool rb)]) (fun _ => [pt b2 31 (mgc Z0 P0), pt b6 31 (mgc m p), row 46 3 p.A p.n p.c (cellsL emc p.Q), row 3 1 p.cA p.cn p.cc (m.cf.map zv)]) (fun _ => True) (fun J hJ => ?_) (fun _ _ => ?_)
  · cases g
    · obtain rfl : rb = false := by rw [← hrb]; rfl
      focus (refine S_region rfl rfl ?_; (iterate 2 refine R_p rfl ?_ rfl rfl); (iterate 2 refine R_skip ?_ rfl rfl); refine R_p rfl ?_ rfl rfl; refine R_nil ?_)
      exact hJ () _ _ trivial (Sub.cons rfl (Sub.cons rfl (Sub.cons rfl (Sub.cons rfl (Sub.cons rfl (Sub.cons rfl (Sub.cons rfl Sub.nil))))))) sub_st
    · rcases (by omega : K0 = 5 ∨ (K0 ≠ 5)) with h | h
      · obtain rfl : rb = true := by rw [← hrb, hb4]; simp [h]
        focus (refine S_region rfl rfl ?_; (iterate 3 refine R_p rfl ?_ rfl rfl); refine R_take (T_decT rfl (by omega)) ?_ rfl rfl; refine R_p rfl ?_ rfl rfl; refine R_nil ?_)
        exact hJ () _ _ trivial (Sub.cons rfl (Sub.cons rfl (Sub.cons rfl (Sub.cons rfl (Sub.cons rfl (Sub.cons rfl (Sub.cons rfl Sub.nil))))))) sub_st
      · obtain rfl : rb = false := by rw [← hrb, hb4]; simp [h]
        focus (refine S_region rfl rfl ?_; (iterate 3 refine R_p rfl ?_ rfl rfl); refine R_take (T_decF rfl (by omega)) ?_ rfl rfl; refine R_p rfl ?_ rfl rfl; refine R_nil ?_)
        exact hJ () _ _ trivial (Sub.cons rfl (Sub.cons rfl (Sub.cons rfl (Sub.cons rfl (Sub.cons rfl (Sub.cons rfl (Sub.cons rfl Sub.nil))))))) sub_st
  refine S_cut (X := (Ms × Mp × Nat × Bool)) (fun y => [(2, .pointer (some ⟨b2, 0, none⟩)), (4, .slice A N c), (6, .pointer (some ⟨b6, 0, none⟩)), (7, .int .i64 (y.2.2.1 : Int)), (8, .bool y.2.2.2), (9, .int .i64 K0)]) (fun y => [pt b2 31 (mgc Z0 P0), pt b6 31 (mgc y.1 y.2.1), row 46 3 y.2.1.A y.2.1.n y.2.1.c (cellsL emc y.2.1.Q), row 3 1 y.2.1.cA y.2.1.cn y.2.1.cc (y.1.cf.map zv)]) (fun y => y.2.1 = ⟨y.2.1.A, y.2.1.n, y.2.1.c, none, 0, 0, none, 0, 0, y.2.1.Q⟩ ∧ y.1.K = K0 ∧ AgR f tr4 r4 y.1 y.2.2.1 y.2.2.2 ∧ MsU y.1 ∧ WfM y.1 y.2.1 ∧ (∀ w', Bs w' All A N c f → ∀ e ∈ y.2.1.Q, BsM w' e) ∧ (∀ w', Bs w' All A N c f → Bs w' All y.2.1.dA y.2.1.dn y.2.1.dc y.1.dt) ∧ (y.2.2.2 = true → y.2.2.1 ≤ N)) (fun J hJ => ?_) (fun y hy => ?_)
  · cases rb
    · --@first: T_decT rfl (by omega) ;; T_decF rfl (by omega)
      focus (refine S_false rfl rfl ?_; refine S_skip rfl ?_)
      exact hJ (m, p, at_, g) _ _ ⟨(by rw [hpx]), hK, (ar_cm0 (ar_es0 hag (by rw [hK]; exact hrb)) (by rw [hK, show hasB K0 8 = hasB K0 4 by rw [hb8, hb4]]; exact hrb)), hmu, hwf, hbq, hbd, hat⟩ (Sub.cons rfl (Sub.cons rfl (Sub.cons rfl (Sub.cons rfl (Sub.cons rfl (Sub.cons rfl Sub.nil)))))) sub_st
    · obtain ⟨rfl, hb⟩ : g = true ∧ hasB m.K 4 = true := by rw [hK]; exact (Bool.and_eq_true _ _).mp hrb
      have hat := hat rfl
      subst hpx
      have hc0 : m.cf = [] := List.eq_nil_of_length_eq_zero hwf.3
      have hd0 : m.dt = [] := List.eq_nil_of_length_eq_zero hwf.4
      obtain ⟨⟨v, a⟩, hv⟩ : ∃ r, numR f (at_) 1 = r := ⟨_, rfl⟩
      have hvb : v < 256 := numR_lt hv
      focus (refine S_true rfl rfl ?_; refine S_seq rfl (S_region rfl rfl ?_); (iterate 2 refine R_p rfl ?_ rfl rfl); (refine R_eff (E_hv0 (f := 47) ⟨_, Tryd.func47, rfl, by kernel_rfl⟩ (fun w hS => number_e w A N c f (hbF.keep hS.kpO) (at_) 1 (by omega) (by decide) (by omega) _ _ hv) rfl rfl (fun _ => rfl)) ?_ rfl rfl; rintro _ _ ⟨_, rfl, _, rfl⟩); (iterate 5 refine R_p rfl ?_ rfl rfl); refine R_nil (S_seq rfl (S_region rfl rfl ?_)); (iterate 2 refine R_p rfl ?_ rfl rfl); refine R_nil (S_seq rfl (S_region rfl rfl ?_)); refine R_p rfl ?_ rfl rfl; refine R_take (T_addN (p := at_) (q := 1) rfl rfl (by unfold fits; omega)) ?_ rfl rfl; refine R_p rfl ?_ rfl rfl; refine R_nil ?_; refine S_seq rfl ?_; refine S_seq rfl (S_region rfl rfl ?_); refine R_p rfl ?_ rfl rfl; refine R_nil ?_; refine S_block rfl ?_)
      refine S_loop (X := Nat × Nat × Bool × (Option Addr × Nat) × List Em) (fun y => [(2, .pointer (some ⟨b2, 0, none⟩)), (4, .slice A N c), (6, .pointer (some ⟨b6, 0, none⟩)), (7, .int .i64 (y.2.1 : Int)), (8, .bool y.2.2.1), (9, .int .i64 K0), (16, .int .u64 (v : Int)), (18, .int .u64 (y.1 : Int))]) (fun y => [pt b2 31 (mgc Z0 P0), pt b6 31 (mgc ⟨m.K, m.F, m.T, m.tm, m.pl, y.2.2.2.2.map emv, m.cm, m.ok, m.ix, m.cf, m.dt⟩ ⟨y.2.2.2.1.1, y.2.2.2.2.length, y.2.2.2.1.2, none, 0, 0, none, 0, 0, y.2.2.2.2⟩), row 46 3 y.2.2.2.1.1 y.2.2.2.2.length y.2.2.2.1.2 (cellsL emc y.2.2.2.2), row 3 1 none 0 0 (m.cf.map zv)]) (fun y => y.1 ≤ v ∧ AgRE f m v y.1 (y.2.2.2.2.map emv) y.2.1 y.2.2.1 ∧ (∀ e ∈ y.2.2.2.2, e.1 < 18446744073709551616) ∧ (∀ w', Bs w' All A N c f → ∀ e ∈ y.2.2.2.2, BsM w' e) ∧ (y.2.2.1 = true → y.2.1 ≤ N) ∧ y.2.2.2.2.length ≤ y.1) (fun y => v - y.1) rfl (0, at_ + 1, a, (none, 0), []) ⟨Nat.zero_le _, ar_es1 hag hb hv, fun e he => absurd he (by simp), fun w' hw e he => absurd he (by simp), fun e => by have e : a = true := e; have := numR_in (hv.trans (congrArg (Prod.mk v) e)); show at_ + 1 ≤ N; omega, Nat.le_refl _⟩ (Sub.cons rfl (Sub.cons rfl (Sub.cons rfl (Sub.cons rfl (Sub.cons rfl (Sub.cons rfl (Sub.cons rfl (Sub.cons rfl Sub.nil)))))))) (fun w' hS => sub_st (H' := [pt b2 31 (mgc Z0 P0), pt b6 31 (mgc m P0), row 46 3 P0.A P0.n P0.c (cellsL emc P0.Q), row 3 1 P0.cA P0.cn P0.cc (m.cf.map zv)]) w' hS) ?_
      clear hat hv hag
      rintro ⟨j, at_, g, ⟨A1, c1⟩, Q⟩ ⟨hj, hae, hQu, hQb, hat, hQj⟩ J2 hJ2
      dsimp only at hj hae hQu hQb hat hQj ⊢
      cases g
      · skip
        focus (refine S_seq rfl ?_; refine S_seq rfl (S_region rfl rfl ?_); (iterate 2 refine R_p rfl ?_ rfl rfl); (iterate 3 refine R_skip ?_ rfl rfl); refine R_p rfl ?_ rfl rfl; refine R_nil ?_; refine S_false rfl rfl ?_; refine S_exit rfl rfl ?_; refine S_seq rfl (S_region rfl rfl ?_); refine R_p rfl ?_ rfl rfl; refine R_nil ?_; refine S_false rfl rfl ?_; refine S_skip rfl ?_)
        exact hJ (⟨m.K, m.F, m.T, m.tm, m.pl, Q.map emv, m.cm, m.ok, m.ix, m.cf, m.dt⟩, ⟨A1, Q.length, c1, none, 0, 0, none, 0, 0, Q⟩, at_, false) _ _ ⟨rfl, hK, AgR.any (ar_es3 (f := f) (k := v) (j := v) (hae.any rfl : AgRE f m v v (Q.map emv) at_ false) (fun _ => rfl)) rfl, ⟨hmu.tm, hmu.p1, hmu.p2, hmu.cm, hmu.ix, fun e he => by obtain ⟨q, hq, rfl⟩ := List.mem_map.1 he; exact hQu q hq⟩, ⟨rfl, rfl, hwf.3, hwf.4⟩, hQb, hbd, fun e => by cases e⟩ (Sub.cons rfl (Sub.cons rfl (Sub.cons rfl (Sub.cons rfl (Sub.cons rfl (Sub.cons rfl Sub.nil)))))) sub_st
      have hat := hat rfl
      rcases Nat.lt_or_ge j v with hjl | hjl
      · have hql : Q.length < 256 := by omega
        obtain ⟨⟨t, c1b⟩, h1⟩ : ∃ r, numR f (at_) 8 = r := ⟨_, rfl⟩
        obtain ⟨⟨ki, d1⟩, h2⟩ : ∃ r, numR f (at_ + 8) 1 = r := ⟨_, rfl⟩
        obtain ⟨⟨sz, e1⟩, h3⟩ : ∃ r, numR f (at_ + 9) 2 = r := ⟨_, rfl⟩
        have h9 := ar_es2 hae hjl h1 h2 h3
        have ht := numR_lt h1
        have hki : ki < 256 := numR_lt h2
        have hsz : sz < 65536 := numR_lt h3
        cases c1b
        · skip
          have hno : AgRE f m v (j + 1) (Q.map emv) at_ false := h9.any (by rfl)
          focus (refine S_seq rfl ?_; refine S_seq rfl (S_region rfl rfl ?_); (iterate 4 refine R_p rfl ?_ rfl rfl); refine R_take (T_decT rfl (by omega)) ?_ rfl rfl; refine R_p rfl ?_ rfl rfl; refine R_nil ?_; refine S_true rfl rfl ?_; refine S_skip rfl ?_; refine S_seq rfl ?_; refine S_block rfl ?_; refine S_seq rfl (S_region rfl rfl ?_); (iterate 2 refine R_p rfl ?_ rfl rfl); (refine R_eff (E_hv0 (f := 47) ⟨_, Tryd.func47, rfl, by kernel_rfl⟩ (fun w hS => number_e w A N c f (hbF.keep hS.kpO) (at_) 8 (by omega) (by decide) (by omega) _ _ h1) rfl rfl (fun _ => rfl)) ?_ rfl rfl; rintro _ _ ⟨_, rfl, _, rfl⟩); (iterate 5 refine R_p rfl ?_ rfl rfl); refine R_nil (S_seq rfl (S_region rfl rfl ?_)); (iterate 2 refine R_p rfl ?_ rfl rfl); refine R_take (T_addN (p := at_) (q := 8) rfl rfl (by unfold fits; omega)) ?_ rfl rfl; (refine R_eff (E_hv0 (f := 47) ⟨_, Tryd.func47, rfl, by kernel_rfl⟩ (fun w hS => number_e w A N c f (hbF.keep hS.kpO) (at_ + 8) 1 (by omega) (by decide) (by omega) _ _ h2) rfl rfl (fun _ => rfl)) ?_ rfl rfl; rintro _ _ ⟨_, rfl, _, rfl⟩); (iterate 5 refine R_p rfl ?_ rfl rfl); refine R_nil (S_seq rfl (S_region rfl rfl ?_)); (iterate 2 refine R_p rfl ?_ rfl rfl); refine R_take (T_addN (p := at_) (q := 9) rfl rfl (by unfold fits; omega)) ?_ rfl rfl; (refine R_eff (E_hv0 (f := 47) ⟨_, Tryd.func47, rfl, by kernel_rfl⟩ (fun w hS => number_e w A N c f (hbF.keep hS.kpO) (at_ + 9) 2 (by omega) (by decide) (by omega) _ _ h3) rfl rfl (fun _ => rfl)) ?_ rfl rfl; rintro _ _ ⟨_, rfl, _, rfl⟩); (iterate 5 refine R_p rfl ?_ rfl rfl); refine R_nil (S_seq rfl (S_region rfl rfl ?_)); (iterate 2 refine R_p rfl ?_ rfl rfl); refine R_skip ?_ rfl rfl; (iterate 2 refine R_p rfl ?_ rfl rfl); refine R_skip ?_ rfl rfl; (iterate 2 refine R_p rfl ?_ rfl rfl); (iterate 8 refine R_skip ?_ rfl rfl); (iterate 2 refine R_p rfl ?_ rfl rfl); refine R_nil (S_seq rfl (S_region rfl rfl ?_)); refine R_p rfl ?_ rfl rfl; refine R_nil ?_; refine S_false rfl rfl ?_; refine S_skip rfl ?_; refine RS_blk ?_; refine S_region rfl rfl ?_; refine R_p rfl ?_ rfl rfl; refine R_take (T_addN rfl rfl (by unfold fits; omega)) ?_ rfl rfl; refine R_p rfl ?_ rfl rfl; refine R_nil ?_)
          exact hJ2 (j + 1, at_, false, (A1, c1), Q) _ _ ⟨by show j + 1 ≤ v; omega, hno, hQu, hQb, (fun e => by cases e), by show Q.length ≤ j + 1; omega⟩ (Sub.cons rfl (Sub.cons rfl (Sub.cons rfl (Sub.cons rfl (Sub.cons rfl (Sub.cons rfl (Sub.cons rfl (Sub.cons rfl Sub.nil)))))))) sub_st (by show v - (j + 1) < v - j; omega)
        cases d1
        · skip
          have hno : AgRE f m v (j + 1) (Q.map emv) at_ false := h9.any (by rfl)
          focus (refine S_seq rfl ?_; refine S_seq rfl (S_region rfl rfl ?_); (iterate 4 refine R_p rfl ?_ rfl rfl); refine R_take (T_decT rfl (by omega)) ?_ rfl rfl; refine R_p rfl ?_ rfl rfl; refine R_nil ?_; refine S_true rfl rfl ?_; refine S_skip rfl ?_; refine S_seq rfl ?_; refine S_block rfl ?_; refine S_seq rfl (S_region rfl rfl ?_); (iterate 2 refine R_p rfl ?_ rfl rfl); (refine R_eff (E_hv0 (f := 47) ⟨_, Tryd.func47, rfl, by kernel_rfl⟩ (fun w hS => number_e w A N c f (hbF.keep hS.kpO) (at_) 8 (by omega) (by decide) (by omega) _ _ h1) rfl rfl (fun _ => rfl)) ?_ rfl rfl; rintro _ _ ⟨_, rfl, _, rfl⟩); (iterate 2 refine R_p rfl ?_ rfl rfl); refine R_take (T_decT rfl (by omega)) ?_ rfl rfl; refine R_p rfl ?_ rfl rfl; refine R_take (T_decT rfl (by omega)) ?_ rfl rfl; refine R_nil (S_seq rfl (S_region rfl rfl ?_)); (iterate 2 refine R_p rfl ?_ rfl rfl); refine R_take (T_addN (p := at_) (q := 8) rfl rfl (by unfold fits; omega)) ?_ rfl rfl; (refine R_eff (E_hv0 (f := 47) ⟨_, Tryd.func47, rfl, by kernel_rfl⟩ (fun w hS => number_e w A N c f (hbF.keep hS.kpO) (at_ + 8) 1 (by omega) (by decide) (by omega) _ _ h2) rfl rfl (fun _ => rfl)) ?_ rfl rfl; rintro _ _ ⟨_, rfl, _, rfl⟩); (iterate 5 refine R_p rfl ?_ rfl rfl); refine R_nil (S_seq rfl (S_region rfl rfl ?_)); (iterate 2 refine R_p rfl ?_ rfl rfl); refine R_take (T_addN (p := at_) (q := 9) rfl rfl (by unfold fits; omega)) ?_ rfl rfl; (refine R_eff (E_hv0 (f := 47) ⟨_, Tryd.func47, rfl, by kernel_rfl⟩ (fun w hS => number_e w A N c f (hbF.keep hS.kpO) (at_ + 9) 2 (by omega) (by decide) (by omega) _ _ h3) rfl rfl (fun _ => rfl)) ?_ rfl rfl; rintro _ _ ⟨_, rfl, _, rfl⟩); (iterate 5 refine R_p rfl ?_ rfl rfl); refine R_nil (S_seq rfl (S_region rfl rfl ?_)); refine R_take (T_decT rfl (by omega)) ?_ rfl rfl; refine R_take (T_decT rfl (by omega)) ?_ rfl rfl; (iterate 3 refine R_p rfl ?_ rfl rfl); refine R_skip ?_ rfl rfl; (iterate 2 refine R_p rfl ?_ rfl rfl); (iterate 8 refine R_skip ?_ rfl rfl); (iterate 2 refine R_p rfl ?_ rfl rfl); refine R_nil (S_seq rfl (S_region rfl rfl ?_)); refine R_p rfl ?_ rfl rfl; refine R_nil ?_; refine S_false rfl rfl ?_; refine S_skip rfl ?_; refine RS_blk ?_; refine S_region rfl rfl ?_; refine R_p rfl ?_ rfl rfl; refine R_take (T_addN rfl rfl (by unfold fits; omega)) ?_ rfl rfl; refine R_p rfl ?_ rfl rfl; refine R_nil ?_)
          exact hJ2 (j + 1, at_, false, (A1, c1), Q) _ _ ⟨by show j + 1 ≤ v; omega, hno, hQu, hQb, (fun e => by cases e), by show Q.length ≤ j + 1; omega⟩ (Sub.cons rfl (Sub.cons rfl (Sub.cons rfl (Sub.cons rfl (Sub.cons rfl (Sub.cons rfl (Sub.cons rfl (Sub.cons rfl Sub.nil)))))))) sub_st (by show v - (j + 1) < v - j; omega)
        cases e1
        · skip
          have hno : AgRE f m v (j + 1) (Q.map emv) at_ false := h9.any (by rfl)
          focus (refine S_seq rfl ?_; refine S_seq rfl (S_region rfl rfl ?_); (iterate 4 refine R_p rfl ?_ rfl rfl); refine R_take (T_decT rfl (by omega)) ?_ rfl rfl; refine R_p rfl ?_ rfl rfl; refine R_nil ?_; refine S_true rfl rfl ?_; refine S_skip rfl ?_; refine S_seq rfl ?_; refine S_block rfl ?_; refine S_seq rfl (S_region rfl rfl ?_); (iterate 2 refine R_p rfl ?_ rfl rfl); (refine R_eff (E_hv0 (f := 47) ⟨_, Tryd.func47, rfl, by kernel_rfl⟩ (fun w hS => number_e w A N c f (hbF.keep hS.kpO) (at_) 8 (by omega) (by decide) (by omega) _ _ h1) rfl rfl (fun _ => rfl)) ?_ rfl rfl; rintro _ _ ⟨_, rfl, _, rfl⟩); (iterate 2 refine R_p rfl ?_ rfl rfl); refine R_take (T_decT rfl (by omega)) ?_ rfl rfl; refine R_p rfl ?_ rfl rfl; refine R_take (T_decT rfl (by omega)) ?_ rfl rfl; refine R_nil (S_seq rfl (S_region rfl rfl ?_)); (iterate 2 refine R_p rfl ?_ rfl rfl); refine R_take (T_addN (p := at_) (q := 8) rfl rfl (by unfold fits; omega)) ?_ rfl rfl; (refine R_eff (E_hv0 (f := 47) ⟨_, Tryd.func47, rfl, by kernel_rfl⟩ (fun w hS => number_e w A N c f (hbF.keep hS.kpO) (at_ + 8) 1 (by omega) (by decide) (by omega) _ _ h2) rfl rfl (fun _ => rfl)) ?_ rfl rfl; rintro _ _ ⟨_, rfl, _, rfl⟩); (iterate 2 refine R_p rfl ?_ rfl rfl); refine R_take (T_decT rfl (by omega)) ?_ rfl rfl; refine R_p rfl ?_ rfl rfl; refine R_take (T_decT rfl (by omega)) ?_ rfl rfl; refine R_nil (S_seq rfl (S_region rfl rfl ?_)); (iterate 2 refine R_p rfl ?_ rfl rfl); refine R_take (T_addN (p := at_) (q := 9) rfl rfl (by unfold fits; omega)) ?_ rfl rfl; (refine R_eff (E_hv0 (f := 47) ⟨_, Tryd.func47, rfl, by kernel_rfl⟩ (fun w hS => number_e w A N c f (hbF.keep hS.kpO) (at_ + 9) 2 (by omega) (by decide) (by omega) _ _ h3) rfl rfl (fun _ => rfl)) ?_ rfl rfl; rintro _ _ ⟨_, rfl, _, rfl⟩); (iterate 5 refine R_p rfl ?_ rfl rfl); refine R_nil (S_seq rfl (S_region rfl rfl ?_)); refine R_take (T_decT rfl (by omega)) ?_ rfl rfl; refine R_take (T_decT rfl (by omega)) ?_ rfl rfl; refine R_take (T_decT rfl (by omega)) ?_ rfl rfl; refine R_take (T_decT rfl (by omega)) ?_ rfl rfl; refine R_take (T_decT rfl (by omega)) ?_ rfl rfl; (iterate 3 refine R_p rfl ?_ rfl rfl); (iterate 8 refine R_skip ?_ rfl rfl); (iterate 2 refine R_p rfl ?_ rfl rfl); refine R_nil (S_seq rfl (S_region rfl rfl ?_)); refine R_p rfl ?_ rfl rfl; refine R_nil ?_; refine S_false rfl rfl ?_; refine S_skip rfl ?_; refine RS_blk ?_; refine S_region rfl rfl ?_; refine R_p rfl ?_ rfl rfl; refine R_take (T_addN rfl rfl (by unfold fits; omega)) ?_ rfl rfl; refine R_p rfl ?_ rfl rfl; refine R_nil ?_)
          exact hJ2 (j + 1, at_, false, (A1, c1), Q) _ _ ⟨by show j + 1 ≤ v; omega, hno, hQu, hQb, (fun e => by cases e), by show Q.length ≤ j + 1; omega⟩ (Sub.cons rfl (Sub.cons rfl (Sub.cons rfl (Sub.cons rfl (Sub.cons rfl (Sub.cons rfl (Sub.cons rfl (Sub.cons rfl Sub.nil)))))))) sub_st (by show v - (j + 1) < v - j; omega)
        have hin : at_ + 9 + 2 ≤ f.length := numR_in h3
        rcases Nat.lt_or_ge N (at_ + 11 + sz) with hs | hs
        · skip
          have hno : AgRE f m v (j + 1) (Q.map emv) at_ false := h9.any (by simp; omega)
          focus (refine S_seq rfl ?_; refine S_seq rfl (S_region rfl rfl ?_); (iterate 4 refine R_p rfl ?_ rfl rfl); refine R_take (T_decT rfl (by omega)) ?_ rfl rfl; refine R_p rfl ?_ rfl rfl; refine R_nil ?_; refine S_true rfl rfl ?_; refine S_skip rfl ?_; refine S_seq rfl ?_; refine S_block rfl ?_; refine S_seq rfl (S_region rfl rfl ?_); (iterate 2 refine R_p rfl ?_ rfl rfl); (refine R_eff (E_hv0 (f := 47) ⟨_, Tryd.func47, rfl, by kernel_rfl⟩ (fun w hS => number_e w A N c f (hbF.keep hS.kpO) (at_) 8 (by omega) (by decide) (by omega) _ _ h1) rfl rfl (fun _ => rfl)) ?_ rfl rfl; rintro _ _ ⟨_, rfl, _, rfl⟩); (iterate 2 refine R_p rfl ?_ rfl rfl); refine R_take (T_decT rfl (by omega)) ?_ rfl rfl; refine R_p rfl ?_ rfl rfl; refine R_take (T_decT rfl (by omega)) ?_ rfl rfl; refine R_nil (S_seq rfl (S_region rfl rfl ?_)); (iterate 2 refine R_p rfl ?_ rfl rfl); refine R_take (T_addN (p := at_) (q := 8) rfl rfl (by unfold fits; omega)) ?_ rfl rfl; (refine R_eff (E_hv0 (f := 47) ⟨_, Tryd.func47, rfl, by kernel_rfl⟩ (fun w hS => number_e w A N c f (hbF.keep hS.kpO) (at_ + 8) 1 (by omega) (by decide) (by omega) _ _ h2) rfl rfl (fun _ => rfl)) ?_ rfl rfl; rintro _ _ ⟨_, rfl, _, rfl⟩); (iterate 2 refine R_p rfl ?_ rfl rfl); refine R_take (T_decT rfl (by omega)) ?_ rfl rfl; refine R_p rfl ?_ rfl rfl; refine R_take (T_decT rfl (by omega)) ?_ rfl rfl; refine R_nil (S_seq rfl (S_region rfl rfl ?_)); (iterate 2 refine R_p rfl ?_ rfl rfl); refine R_take (T_addN (p := at_) (q := 9) rfl rfl (by unfold fits; omega)) ?_ rfl rfl; (refine R_eff (E_hv0 (f := 47) ⟨_, Tryd.func47, rfl, by kernel_rfl⟩ (fun w hS => number_e w A N c f (hbF.keep hS.kpO) (at_ + 9) 2 (by omega) (by decide) (by omega) _ _ h3) rfl rfl (fun _ => rfl)) ?_ rfl rfl; rintro _ _ ⟨_, rfl, _, rfl⟩); (iterate 2 refine R_p rfl ?_ rfl rfl); refine R_take (T_decT rfl (by omega)) ?_ rfl rfl; refine R_p rfl ?_ rfl rfl; refine R_take (T_decT rfl (by omega)) ?_ rfl rfl; refine R_nil (S_seq rfl (S_region rfl rfl ?_)); refine R_take (T_decT rfl (by omega)) ?_ rfl rfl; refine R_take (T_decT rfl (by omega)) ?_ rfl rfl; refine R_take (T_decT rfl (by omega)) ?_ rfl rfl; refine R_take (T_decT rfl (by omega)) ?_ rfl rfl; refine R_take (T_decT rfl (by omega)) ?_ rfl rfl; refine R_take (T_decT rfl (by omega)) ?_ rfl rfl; refine R_take (T_decT rfl (by omega)) ?_ rfl rfl; refine R_take (T_decT rfl (by omega)) ?_ rfl rfl; (iterate 3 refine R_p rfl ?_ rfl rfl); refine R_take (T_subN rfl rfl (by omega) (by unfold fits; omega)) ?_ rfl rfl; refine R_take (T_subN rfl rfl (by omega) (by unfold fits; omega)) ?_ rfl rfl; refine R_p rfl ?_ rfl rfl; refine R_take (T_convf rfl rfl rfl rfl (by unfold fits; omega)) ?_ rfl rfl; refine R_take (T_decF rfl (by omega)) ?_ rfl rfl; (iterate 2 refine R_p rfl ?_ rfl rfl); refine R_nil (S_seq rfl (S_region rfl rfl ?_)); refine R_p rfl ?_ rfl rfl; refine R_nil ?_; refine S_false rfl rfl ?_; refine S_skip rfl ?_; refine RS_blk ?_; refine S_region rfl rfl ?_; refine R_p rfl ?_ rfl rfl; refine R_take (T_addN rfl rfl (by unfold fits; omega)) ?_ rfl rfl; refine R_p rfl ?_ rfl rfl; refine R_nil ?_)
          exact hJ2 (j + 1, at_, false, (A1, c1), Q) _ _ ⟨by show j + 1 ≤ v; omega, hno, hQu, hQb, (fun e => by cases e), by show Q.length ≤ j + 1; omega⟩ (Sub.cons rfl (Sub.cons rfl (Sub.cons rfl (Sub.cons rfl (Sub.cons rfl (Sub.cons rfl (Sub.cons rfl (Sub.cons rfl Sub.nil)))))))) sub_st (by show v - (j + 1) < v - j; omega)
        obtain ⟨dd, hdd⟩ : ∃ d, (f.drop (at_ + 11)).take sz = d := ⟨_, rfl⟩
        have hdl : sz = dd.length := by rw [← hdd, List.length_take, List.length_drop]; omega
        rw [hdd, show (true && true && true && decide (at_ + 11 + sz ≤ f.length)) = true by simp; omega] at h9
        subst hdl
        have hbs : ∀ w', Bs w' All A N c f → Bs w' All (cutP A c (at_ + 11) 1) dd.length (c - (at_ + 11)) dd := fun w' hw => by have h9 := part_at hw (q := at_ + 11) (k := dd.length) (by omega); rw [hdd] at h9; exact h9
        focus (refine S_seq rfl ?_; refine S_seq rfl (S_region rfl rfl ?_); (iterate 4 refine R_p rfl ?_ rfl rfl); refine R_take (T_decT rfl (by omega)) ?_ rfl rfl; refine R_p rfl ?_ rfl rfl; refine R_nil ?_; refine S_true rfl rfl ?_; refine S_skip rfl ?_; refine S_seq rfl ?_; refine S_block rfl ?_; refine S_seq rfl (S_region rfl rfl ?_); (iterate 2 refine R_p rfl ?_ rfl rfl); (refine R_eff (E_hv0 (f := 47) ⟨_, Tryd.func47, rfl, by kernel_rfl⟩ (fun w hS => number_e w A N c f (hbF.keep hS.kpO) (at_) 8 (by omega) (by decide) (by omega) _ _ h1) rfl rfl (fun _ => rfl)) ?_ rfl rfl; rintro _ _ ⟨_, rfl, _, rfl⟩); (iterate 2 refine R_p rfl ?_ rfl rfl); refine R_take (T_decT rfl (by omega)) ?_ rfl rfl; refine R_p rfl ?_ rfl rfl; refine R_take (T_decT rfl (by omega)) ?_ rfl rfl; refine R_nil (S_seq rfl (S_region rfl rfl ?_)); (iterate 2 refine R_p rfl ?_ rfl rfl); refine R_take (T_addN (p := at_) (q := 8) rfl rfl (by unfold fits; omega)) ?_ rfl rfl; (refine R_eff (E_hv0 (f := 47) ⟨_, Tryd.func47, rfl, by kernel_rfl⟩ (fun w hS => number_e w A N c f (hbF.keep hS.kpO) (at_ + 8) 1 (by omega) (by decide) (by omega) _ _ h2) rfl rfl (fun _ => rfl)) ?_ rfl rfl; rintro _ _ ⟨_, rfl, _, rfl⟩); (iterate 2 refine R_p rfl ?_ rfl rfl); refine R_take (T_decT rfl (by omega)) ?_ rfl rfl; refine R_p rfl ?_ rfl rfl; refine R_take (T_decT rfl (by omega)) ?_ rfl rfl; refine R_nil (S_seq rfl (S_region rfl rfl ?_)); (iterate 2 refine R_p rfl ?_ rfl rfl); refine R_take (T_addN (p := at_) (q := 9) rfl rfl (by unfold fits; omega)) ?_ rfl rfl; (refine R_eff (E_hv0 (f := 47) ⟨_, Tryd.func47, rfl, by kernel_rfl⟩ (fun w hS => number_e w A N c f (hbF.keep hS.kpO) (at_ + 9) 2 (by omega) (by decide) (by omega) _ _ h3) rfl rfl (fun _ => rfl)) ?_ rfl rfl; rintro _ _ ⟨_, rfl, _, rfl⟩); (iterate 2 refine R_p rfl ?_ rfl rfl); refine R_take (T_decT rfl (by omega)) ?_ rfl rfl; refine R_p rfl ?_ rfl rfl; refine R_take (T_decT rfl (by omega)) ?_ rfl rfl; refine R_nil (S_seq rfl (S_region rfl rfl ?_)); refine R_take (T_decT rfl (by omega)) ?_ rfl rfl; refine R_take (T_decT rfl (by omega)) ?_ rfl rfl; refine R_take (T_decT rfl (by omega)) ?_ rfl rfl; refine R_take (T_decT rfl (by omega)) ?_ rfl rfl; refine R_take (T_decT rfl (by omega)) ?_ rfl rfl; refine R_take (T_decT rfl (by omega)) ?_ rfl rfl; refine R_take (T_decT rfl (by omega)) ?_ rfl rfl; refine R_take (T_decT rfl (by omega)) ?_ rfl rfl; (iterate 3 refine R_p rfl ?_ rfl rfl); refine R_take (T_subN rfl rfl (by omega) (by unfold fits; omega)) ?_ rfl rfl; refine R_take (T_subN rfl rfl (by omega) (by unfold fits; omega)) ?_ rfl rfl; refine R_p rfl ?_ rfl rfl; refine R_take (T_convf rfl rfl rfl rfl (by unfold fits; omega)) ?_ rfl rfl; refine R_take (T_decT rfl (by omega)) ?_ rfl rfl; refine R_take (T_decT rfl (by omega)) ?_ rfl rfl; refine R_take (T_decT rfl (by omega)) ?_ rfl rfl; refine R_nil (S_seq rfl (S_region rfl rfl ?_)); refine R_take (T_decT rfl (by omega)) ?_ rfl rfl; refine R_nil ?_; refine S_true rfl rfl ?_; refine S_seq rfl ?_)
        refine S_draw ([pt b6 31 (mgc ⟨m.K, m.F, m.T, m.tm, m.pl, Q.map emv, m.cm, m.ok, m.ix, m.cf, m.dt⟩ ⟨A1, Q.length, c1, none, 0, 0, none, 0, 0, Q⟩)]) sub_st (by kernel_rfl) rfl (by kernel_rfl) (by kernel_rfl : _ = 19) ?_
        refine D_take 0 rfl (pev_ok rfl) ?_ rfl rfl (by kernel_rfl) (by kernel_rfl)
        refine D_take 1 rfl (T_load rfl rfl rfl rfl) ?_ rfl rfl (by kernel_rfl) (by kernel_rfl)
        refine D_take 2 rfl (pev_ok rfl) ?_ rfl rfl (by kernel_rfl) (by kernel_rfl)
        refine D_take 3 rfl (pev_ok rfl) ?_ rfl rfl (by kernel_rfl) (by kernel_rfl)
        (refine D_take 4 rfl (T_convf rfl rfl rfl rfl (by unfold fits; omega)) ?_ rfl rfl (by kernel_rfl) (by kernel_rfl))
        refine D_take 5 rfl (pev_ok rfl) ?_ rfl rfl (by kernel_rfl) (by kernel_rfl)
        refine D_take 6 rfl (pev_ok rfl) ?_ rfl rfl (by kernel_rfl) (by kernel_rfl)
        (refine D_take 7 rfl (T_addN (p := at_) (q := 11) rfl rfl (by unfold fits; omega)) ?_ rfl rfl (by kernel_rfl) (by kernel_rfl))
        refine D_take 8 rfl (pev_ok rfl) ?_ rfl rfl (by kernel_rfl) (by kernel_rfl)
        (refine D_take 9 rfl (T_addN (p := at_) (q := 11) rfl rfl (by unfold fits; omega)) ?_ rfl rfl (by kernel_rfl) (by kernel_rfl))
        refine D_take 10 rfl (pev_ok rfl) ?_ rfl rfl (by kernel_rfl) (by kernel_rfl)
        (refine D_take 11 rfl (T_convf rfl rfl rfl rfl (by unfold fits; omega)) ?_ rfl rfl (by kernel_rfl) (by kernel_rfl))
        (refine D_take 12 rfl (T_addN (p := at_ + 11) (q := dd.length) rfl rfl (by unfold fits; omega)) ?_ rfl rfl (by kernel_rfl) (by kernel_rfl))
        refine D_take 13 rfl (T_slbE (u := dd.length) (q := at_ + 11) (r := at_ + 11 + dd.length) (by omega) rfl rfl rfl rfl rfl rfl rfl (by omega) (by omega)) ?_ rfl rfl (by kernel_rfl) (by kernel_rfl)
        refine D_take 14 rfl (T_build3 rfl rfl rfl (en_built3 _ _ _ _ _)) ?_ rfl rfl (by kernel_rfl) (by kernel_rfl)
        refine D_one 15 rfl (E_litS (vs := [.agg (emc (t, (ki : Int), cutP A c (at_ + 11) 1, c - (at_ + 11), dd)).toArray]) (size := 3) (ds := emc (t, (ki : Int), cutP A c (at_ + 11) 1, c - (at_ + 11), dd)) rfl rfl rfl rfl rfl rfl (by simp [vcells, emc_len]) (by simp [vcells]) (by omega)) ?_ rfl rfl (by kernel_rfl)
        rintro _ _ ⟨vb, rfl, rfl⟩
        refine Nx_same sub_st ?_
        refine D_one 16 rfl (E_appS (sz := 3) (m := Q.length) (c := c1) (A := A1) rfl rfl rfl rfl rfl rfl rfl (by decide) (Srd.pt (n := 1) (g := vb) (ds := emc (t, (ki : Int), cutP A c (at_ + 11) 1, c - (at_ + 11), dd)) rfl (fun j u hj => by rw [Nat.zero_add]; exact hj)) (emc_one _) (by show (Q.length + 1) * 40 ≤ _; omega) (by unfold maxLen; omega)) ?_ rfl rfl (by kernel_rfl)
        rintro _ _ ⟨A2, c2, rfl, rfl⟩
        refine Nx_same sub_st ?_
        refine D_take 17 rfl (pev_ok rfl) ?_ rfl rfl (by kernel_rfl) (by kernel_rfl)
        refine D_one 18 rfl (E_storeA1 (gb := b6) (t := 31) (cs := mgc ⟨m.K, m.F, m.T, m.tm, m.pl, Q.map emv, m.cm, m.ok, m.ix, m.cf, m.dt⟩ ⟨A1, Q.length, c1, none, 0, 0, none, 0, 0, Q⟩) (v := .slice A2 (Q.length + 1) c2) (cs' := mgc ⟨m.K, m.F, m.T, m.tm, m.pl, (Q ++ [(t, (ki : Int), cutP A c (at_ + 11) 1, c - (at_ + 11), dd)]).map emv, m.cm, m.ok, m.ix, m.cf, m.dt⟩ ⟨A2, (Q.length + 1), c2, none, 0, 0, none, 0, 0, (Q ++ [(t, (ki : Int), cutP A c (at_ + 11) 1, c - (at_ + 11), dd)])⟩) rfl rfl rfl rfl rfl rfl (by show 6 < 12; omega)) ?_ rfl rfl (by kernel_rfl)
        rintro _ _ rfl
        refine Nx_pivot (by kernel_rfl) ?_
        refine D_done ?_ (by kernel_rfl)
        skip
        focus (refine S_region rfl rfl ?_; refine R_p rfl ?_ rfl rfl; refine R_take (T_addN (p := at_) (q := 11) rfl rfl (by unfold fits; omega)) ?_ rfl rfl; refine R_p rfl ?_ rfl rfl; refine R_take (T_convf rfl rfl rfl rfl (by unfold fits; omega)) ?_ rfl rfl; refine R_take (T_addN (p := at_ + 11) (q := dd.length) rfl rfl (by unfold fits; omega)) ?_ rfl rfl; refine R_p rfl ?_ rfl rfl; refine R_nil ?_; refine RS_blk ?_; refine S_region rfl rfl ?_; refine R_p rfl ?_ rfl rfl; refine R_take (T_addN rfl rfl (by unfold fits; omega)) ?_ rfl rfl; refine R_p rfl ?_ rfl rfl; refine R_nil ?_)
        refine hJ2 (j + 1, at_ + 11 + dd.length, true, (A2, c2), Q ++ [(t, (ki : Int), cutP A c (at_ + 11) 1, c - (at_ + 11), dd)]) _ _ ⟨by show j + 1 ≤ v; omega, by dsimp only; rw [List.map_append]; exact h9, ?_, ?_, fun _ => hs, by dsimp only; rw [List.length_append]; simp only [List.length_cons, List.length_nil]; omega⟩ (Sub.cons rfl (Sub.cons rfl (Sub.cons rfl (Sub.cons rfl (Sub.cons rfl (Sub.cons rfl (Sub.cons rfl (Sub.cons rfl Sub.nil)))))))) (fun w' hS => ?_) (by show v - (j + 1) < v - j; omega)
        · intro e he
          rcases List.mem_append.1 he with he | he
          · exact hQu e he
          · rw [List.mem_singleton.1 he]; exact ht
        · intro w' hw e he
          rcases List.mem_append.1 he with he | he
          · exact hQb w' hw e he
          · rw [List.mem_singleton.1 he]; exact hbs w' hw
        · have e1 : cellsL emc (Q ++ [(t, (ki : Int), cutP A c (at_ + 11) 1, c - (at_ + 11), dd)]) = cellsL emc Q ++ emc (t, (ki : Int), cutP A c (at_ + 11) 1, c - (at_ + 11), dd) := by rw [cellsL_app, cellsL_one]
          have e2 : (Q ++ [(t, (ki : Int), cutP A c (at_ + 11) 1, c - (at_ + 11), dd)]).length = Q.length + 1 := by rw [List.length_append]; rfl
          show St _ _ [pt b2 31 (mgc Z0 P0), pt b6 31 (mgc ⟨m.K, m.F, m.T, m.tm, m.pl, (Q ++ [(t, (ki : Int), cutP A c (at_ + 11) 1, c - (at_ + 11), dd)]).map emv, m.cm, m.ok, m.ix, m.cf, m.dt⟩ ⟨A2, (Q ++ [(t, (ki : Int), cutP A c (at_ + 11) 1, c - (at_ + 11), dd)]).length, c2, none, 0, 0, none, 0, 0, (Q ++ [(t, (ki : Int), cutP A c (at_ + 11) 1, c - (at_ + 11), dd)])⟩), row 46 3 A2 (Q ++ [(t, (ki : Int), cutP A c (at_ + 11) 1, c - (at_ + 11), dd)]).length c2 (cellsL emc (Q ++ [(t, (ki : Int), cutP A c (at_ + 11) 1, c - (at_ + 11), dd)])), row 3 1 none 0 0 (m.cf.map zv)] w'
          rw [e1, e2]
          exact sub_st w' hS
      obtain rfl : j = v := by omega
      have h8 := ar_es3 hae (fun _ => rfl)
      obtain ⟨⟨cv, ca⟩, hcv⟩ : ∃ r, numR f (at_) 8 = r := ⟨_, rfl⟩
      have hu9 := numR_lt hcv
      focus (refine S_seq rfl ?_; refine S_seq rfl (S_region rfl rfl ?_); (iterate 4 refine R_p rfl ?_ rfl rfl); refine R_take (T_decF rfl (by omega)) ?_ rfl rfl; refine R_p rfl ?_ rfl rfl; refine R_nil ?_; refine S_false rfl rfl ?_; refine S_exit rfl rfl ?_; refine S_seq rfl (S_region rfl rfl ?_); refine R_p rfl ?_ rfl rfl; refine R_nil ?_; refine S_true rfl rfl ?_; refine S_seq rfl (S_region rfl rfl ?_); (iterate 2 refine R_p rfl ?_ rfl rfl); (refine R_eff (E_hv0 (f := 47) ⟨_, Tryd.func47, rfl, by kernel_rfl⟩ (fun w hS => number_e w A N c f (hbF.keep hS.kpO) (at_) 8 (by omega) (by decide) (by omega) _ _ hcv) rfl rfl (fun _ => rfl)) ?_ rfl rfl; rintro _ _ ⟨_, rfl, _, rfl⟩); (iterate 4 refine R_p rfl ?_ rfl rfl); (refine R_eff0 (E_storeA1 (gb := b6) (t := 31) (cs := mgc ⟨m.K, m.F, m.T, m.tm, m.pl, Q.map emv, m.cm, m.ok, m.ix, m.cf, m.dt⟩ ⟨A1, Q.length, c1, none, 0, 0, none, 0, 0, Q⟩) (v := .int .u64 (cv : Int)) (cs' := mgc ⟨m.K, m.F, m.T, m.tm, m.pl, Q.map emv, cv, m.ok, m.ix, m.cf, m.dt⟩ ⟨A1, Q.length, c1, none, 0, 0, none, 0, 0, Q⟩) rfl rfl rfl rfl rfl rfl (by show 7 < 12; omega)) ?_ rfl; rintro _ _ rfl); refine R_p rfl ?_ rfl rfl; refine R_nil ?_; refine S_region rfl rfl ?_; refine R_p rfl ?_ rfl rfl; refine R_take (T_addN (p := at_) (q := 8) rfl rfl (by unfold fits; omega)) ?_ rfl rfl; refine R_p rfl ?_ rfl rfl; refine R_nil ?_)
      exact hJ (⟨m.K, m.F, m.T, m.tm, m.pl, Q.map emv, cv, m.ok, m.ix, m.cf, m.dt⟩, ⟨A1, Q.length, c1, none, 0, 0, none, 0, 0, Q⟩, (at_ + 8), ca) _ _ ⟨rfl, hK, ar_cm h8 (by show hasB m.K 8 = true; rw [hb8]; rw [hb4] at hb; exact hb) hcv, ⟨hmu.tm, hmu.p1, hmu.p2, hu9, hmu.ix, fun e he => by obtain ⟨q, hq, rfl⟩ := List.mem_map.1 he; exact hQu q hq⟩, ⟨rfl, rfl, hwf.3, hwf.4⟩, hQb, hbd, fun e => by have e : ca = true := e; have := numR_in (hcv.trans (congrArg (Prod.mk cv) e)); show at_ + 8 ≤ N; omega⟩ (Sub.cons rfl (Sub.cons rfl (Sub.cons rfl (Sub.cons rfl (Sub.cons rfl (Sub.cons rfl Sub.nil)))))) sub_st
  clear hpx hag hmu hwf hbq hbd hat hK hrb rb m p at_ g
  obtain ⟨m, p, at_, g⟩ := y
  dsimp only at hy ⊢
  obtain ⟨hpx, hK, hag, hmu, hwf, hbq, hbd, hat⟩ := hy
  obtain ⟨rb, hrb⟩ : ∃ r, (g && hasB K0 16) = r := ⟨_, rfl⟩
  refine S_seq rfl ?_
  refine S_seq rfl ?_
  refine S_cut (X := Unit) (fun _ => [(2, .pointer (some ⟨b2, 0, none⟩)), (4, .slice A N c), (6, .pointer (some ⟨b6, 0, none⟩)), (7, .int .i64 (at_ : Int)), (8, .bool g), (9, .int .i64 K0), (232, .bool rb)]) (fun _ => [pt b2 31 (mgc Z0 P0), pt b6 31 (mgc m p), row 46 3 p.A p.n p.c (cellsL emc p.Q), row 3 1 p.cA p.cn p.cc (m.cf.map zv)]) (fun _ => True) (fun J hJ => ?_) (fun _ _ => ?_)
  · cases g
    · obtain rfl : rb = false := by rw [← hrb]; rfl
      focus (refine S_region rfl rfl ?_; (iterate 2 refine R_p rfl ?_ rfl rfl); (iterate 2 refine R_skip ?_ rfl rfl); refine R_p rfl ?_ rfl rfl; refine R_nil ?_)
      exact hJ () _ _ trivial (Sub.cons rfl (Sub.cons rfl (Sub.cons rfl (Sub.cons rfl (Sub.cons rfl (Sub.cons rfl (Sub.cons rfl Sub.nil))))))) sub_st
    · rcases (by omega : K0 = 6 ∨ (K0 ≠ 6)) with h | h
      · obtain rfl : rb = true := by rw [← hrb, hb16]; simp [h]
        focus (refine S_region rfl rfl ?_; (iterate 3 refine R_p rfl ?_ rfl rfl); refine R_take (T_decT rfl (by omega)) ?_ rfl rfl; refine R_p rfl ?_ rfl rfl; refine R_nil ?_)
        exact hJ () _ _ trivial (Sub.cons rfl (Sub.cons rfl (Sub.cons rfl (Sub.cons rfl (Sub.cons rfl (Sub.cons rfl (Sub.cons rfl Sub.nil))))))) sub_st
      · obtain rfl : rb = false := by rw [← hrb, hb16]; simp [h]
        focus (refine S_region rfl rfl ?_; (iterate 3 refine R_p rfl ?_ rfl rfl); refine R_take (T_decF rfl (by omega)) ?_ rfl rfl; refine R_p rfl ?_ rfl rfl; refine R_nil ?_)
        exact hJ () _ _ trivial (Sub.cons rfl (Sub.cons rfl (Sub.cons rfl (Sub.cons rfl (Sub.cons rfl (Sub.cons rfl (Sub.cons rfl Sub.nil))))))) sub_st
  refine S_cut (X := (Ms × Mp × Nat × Bool)) (fun y => [(2, .pointer (some ⟨b2, 0, none⟩)), (4, .slice A N c), (6, .pointer (some ⟨b6, 0, none⟩)), (7, .int .i64 (y.2.2.1 : Int)), (8, .bool y.2.2.2), (9, .int .i64 K0)]) (fun y => [pt b2 31 (mgc Z0 P0), pt b6 31 (mgc y.1 y.2.1), row 46 3 y.2.1.A y.2.1.n y.2.1.c (cellsL emc y.2.1.Q), row 3 1 y.2.1.cA y.2.1.cn y.2.1.cc (y.1.cf.map zv)]) (fun y => y.2.1 = ⟨y.2.1.A, y.2.1.n, y.2.1.c, none, 0, 0, none, 0, 0, y.2.1.Q⟩ ∧ y.1.K = K0 ∧ AgR f tr5 r5 y.1 y.2.2.1 y.2.2.2 ∧ MsU y.1 ∧ WfM y.1 y.2.1 ∧ (∀ w', Bs w' All A N c f → ∀ e ∈ y.2.1.Q, BsM w' e) ∧ (∀ w', Bs w' All A N c f → Bs w' All y.2.1.dA y.2.1.dn y.2.1.dc y.1.dt) ∧ (y.2.2.2 = true → y.2.2.1 ≤ N)) (fun J hJ => ?_) (fun y hy => ?_)
  · cases rb
    · --@first: T_decT rfl (by omega) ;; T_decF rfl (by omega)
      focus (refine S_false rfl rfl ?_; refine S_skip rfl ?_)
      exact hJ (m, p, at_, g) _ _ ⟨hpx, hK, (ar_ix0 hag (by rw [hK]; exact hrb)), hmu, hwf, hbq, hbd, hat⟩ (Sub.cons rfl (Sub.cons rfl (Sub.cons rfl (Sub.cons rfl (Sub.cons rfl (Sub.cons rfl Sub.nil)))))) sub_st
    · obtain ⟨rfl, hb⟩ : g = true ∧ hasB m.K 16 = true := by rw [hK]; exact (Bool.and_eq_true _ _).mp hrb
      have hat := hat rfl
      obtain ⟨⟨v, a⟩, hv⟩ : ∃ r, numR f (at_) 8 = r := ⟨_, rfl⟩
      have hu1 := numR_lt hv
      focus (refine S_true rfl rfl ?_; refine S_seq rfl (S_region rfl rfl ?_); (iterate 2 refine R_p rfl ?_ rfl rfl); (refine R_eff (E_hv0 (f := 47) ⟨_, Tryd.func47, rfl, by kernel_rfl⟩ (fun w hS => number_e w A N c f (hbF.keep hS.kpO) (at_) 8 (by omega) (by decide) (by omega) _ _ hv) rfl rfl (fun _ => rfl)) ?_ rfl rfl; rintro _ _ ⟨_, rfl, _, rfl⟩); (iterate 4 refine R_p rfl ?_ rfl rfl); (refine R_eff0 (E_storeA1 (gb := b6) (t := 31) (cs := mgc m p) (v := .int .u64 (v : Int)) (cs' := mgc ⟨m.K, m.F, m.T, m.tm, m.pl, m.es, m.cm, m.ok, v, m.cf, m.dt⟩ p) rfl rfl rfl rfl rfl rfl (by show 9 < 12; omega)) ?_ rfl; rintro _ _ rfl); refine R_p rfl ?_ rfl rfl; refine R_nil ?_; refine S_region rfl rfl ?_; refine R_p rfl ?_ rfl rfl; refine R_take (T_addN (p := at_) (q := 8) rfl rfl (by unfold fits; omega)) ?_ rfl rfl; refine R_p rfl ?_ rfl rfl; refine R_nil ?_)
      exact hJ (⟨m.K, m.F, m.T, m.tm, m.pl, m.es, m.cm, m.ok, v, m.cf, m.dt⟩, p, (at_ + 8), a) _ _ ⟨hpx, hK, ar_ix hag hb hv, ⟨hmu.tm, hmu.p1, hmu.p2, hmu.cm, hu1, hmu.es⟩, ⟨hwf.1, hwf.2, hwf.3, hwf.4⟩, hbq, hbd, fun e => by have e : a = true := e; have := numR_in (hv.trans (congrArg (Prod.mk v) e)); show at_ + 8 ≤ N; omega⟩ (Sub.cons rfl (Sub.cons rfl (Sub.cons rfl (Sub.cons rfl (Sub.cons rfl (Sub.cons rfl Sub.nil)))))) sub_st
  clear hpx hag hmu hwf hbq hbd hat hK hrb rb m p at_ g
  obtain ⟨m, p, at_, g⟩ := y
  dsimp only at hy ⊢
  obtain ⟨hpx, hK, hag, hmu, hwf, hbq, hbd, hat⟩ := hy
  obtain ⟨rb, hrb⟩ : ∃ r, (g && hasB K0 32) = r := ⟨_, rfl⟩
  refine S_seq rfl ?_
  refine S_seq rfl ?_
  refine S_cut (X := Unit) (fun _ => [(2, .pointer (some ⟨b2, 0, none⟩)), (4, .slice A N c), (6, .pointer (some ⟨b6, 0, none⟩)), (7, .int .i64 (at_ : Int)), (8, .bool g), (9, .int .i64 K0), (246, .bool rb)]) (fun _ => [pt b2 31 (mgc Z0 P0), pt b6 31 (mgc m p), row 46 3 p.A p.n p.c (cellsL emc p.Q), row 3 1 p.cA p.cn p.cc (m.cf.map zv)]) (fun _ => True) (fun J hJ => ?_) (fun _ _ => ?_)
  · cases g
    · obtain rfl : rb = false := by rw [← hrb]; rfl
      focus (refine S_region rfl rfl ?_; (iterate 2 refine R_p rfl ?_ rfl rfl); (iterate 2 refine R_skip ?_ rfl rfl); refine R_p rfl ?_ rfl rfl; refine R_nil ?_)
      exact hJ () _ _ trivial (Sub.cons rfl (Sub.cons rfl (Sub.cons rfl (Sub.cons rfl (Sub.cons rfl (Sub.cons rfl (Sub.cons rfl Sub.nil))))))) sub_st
    · rcases (by omega : K0 = 7 ∨ (K0 ≠ 7)) with h | h
      · obtain rfl : rb = true := by rw [← hrb, hb32]; simp [h]
        focus (refine S_region rfl rfl ?_; (iterate 3 refine R_p rfl ?_ rfl rfl); refine R_take (T_decT rfl (by omega)) ?_ rfl rfl; refine R_p rfl ?_ rfl rfl; refine R_nil ?_)
        exact hJ () _ _ trivial (Sub.cons rfl (Sub.cons rfl (Sub.cons rfl (Sub.cons rfl (Sub.cons rfl (Sub.cons rfl (Sub.cons rfl Sub.nil))))))) sub_st
      · obtain rfl : rb = false := by rw [← hrb, hb32]; simp [h]
        focus (refine S_region rfl rfl ?_; (iterate 3 refine R_p rfl ?_ rfl rfl); refine R_take (T_decF rfl (by omega)) ?_ rfl rfl; refine R_p rfl ?_ rfl rfl; refine R_nil ?_)
        exact hJ () _ _ trivial (Sub.cons rfl (Sub.cons rfl (Sub.cons rfl (Sub.cons rfl (Sub.cons rfl (Sub.cons rfl (Sub.cons rfl Sub.nil))))))) sub_st
  refine S_cut (X := (Ms × Mp × Nat × Bool)) (fun y => [(2, .pointer (some ⟨b2, 0, none⟩)), (4, .slice A N c), (6, .pointer (some ⟨b6, 0, none⟩)), (7, .int .i64 (y.2.2.1 : Int)), (8, .bool y.2.2.2), (9, .int .i64 K0)]) (fun y => [pt b2 31 (mgc Z0 P0), pt b6 31 (mgc y.1 y.2.1), row 46 3 y.2.1.A y.2.1.n y.2.1.c (cellsL emc y.2.1.Q), row 3 1 y.2.1.cA y.2.1.cn y.2.1.cc (y.1.cf.map zv)]) (fun y => y.2.1 = y.2.1 ∧ y.1.K = K0 ∧ AgR f tr7 r7 y.1 y.2.2.1 y.2.2.2 ∧ MsU y.1 ∧ WfM y.1 y.2.1 ∧ (∀ w', Bs w' All A N c f → ∀ e ∈ y.2.1.Q, BsM w' e) ∧ (∀ w', Bs w' All A N c f → Bs w' All y.2.1.dA y.2.1.dn y.2.1.dc y.1.dt) ∧ (y.2.2.2 = true → y.2.2.1 ≤ N)) (fun J hJ => ?_) (fun y hy => ?_)
  · cases rb
    · --@first: T_decT rfl (by omega) ;; T_decF rfl (by omega)
      focus (refine S_false rfl rfl ?_; refine S_skip rfl ?_)
      exact hJ (m, p, at_, g) _ _ ⟨rfl, hK, (ar_dt0 (ar_cf0 hag (by rw [hK]; exact hrb)) (by rw [hK, show hasB K0 64 = hasB K0 32 by rw [hb64, hb32]]; exact hrb)), hmu, hwf, hbq, hbd, hat⟩ (Sub.cons rfl (Sub.cons rfl (Sub.cons rfl (Sub.cons rfl (Sub.cons rfl (Sub.cons rfl Sub.nil)))))) sub_st
    · obtain ⟨rfl, hb⟩ : g = true ∧ hasB m.K 32 = true := by rw [hK]; exact (Bool.and_eq_true _ _).mp hrb
      have hat := hat rfl
      have hc0 : m.cf = [] := List.eq_nil_of_length_eq_zero (by rw [hwf.3, hpx])
      have hd0 : m.dt = [] := List.eq_nil_of_length_eq_zero (by rw [hwf.4, hpx])
      obtain ⟨⟨v, a⟩, hv⟩ : ∃ r, numR f (at_) 1 = r := ⟨_, rfl⟩
      have hvb : v < 256 := numR_lt hv
      obtain ⟨hyes, hac⟩ := ar_cf1 hag hb hv
      cases a
      · have hno : ∀ x, MsOk x → MsU x → plainB x = f → False := fun x hx hu hp => by have := (hyes x hx hu hp).1; cases this
        focus (refine S_true rfl rfl ?_; refine S_seq rfl (S_region rfl rfl ?_); (iterate 2 refine R_p rfl ?_ rfl rfl); (refine R_eff (E_hv0 (f := 47) ⟨_, Tryd.func47, rfl, by kernel_rfl⟩ (fun w hS => number_e w A N c f (hbF.keep hS.kpO) (at_) 1 (by omega) (by decide) (by omega) _ _ hv) rfl rfl (fun _ => rfl)) ?_ rfl rfl; rintro _ _ ⟨_, rfl, _, rfl⟩); (iterate 5 refine R_p rfl ?_ rfl rfl); refine R_nil (S_seq rfl (S_region rfl rfl ?_)); (iterate 2 refine R_p rfl ?_ rfl rfl); (iterate 8 refine R_skip ?_ rfl rfl); (iterate 2 refine R_p rfl ?_ rfl rfl); refine R_nil (S_seq rfl (S_region rfl rfl ?_)); refine R_p rfl ?_ rfl rfl; refine R_nil ?_; refine S_false rfl rfl ?_; refine S_skip rfl ?_)
        exact hJ (m, p, at_, false) _ _ ⟨rfl, hK, AgR.no hno, hmu, hwf, hbq, hbd, fun e => by cases e⟩ (Sub.cons rfl (Sub.cons rfl (Sub.cons rfl (Sub.cons rfl (Sub.cons rfl (Sub.cons rfl Sub.nil)))))) sub_st
      have hin : at_ + 1 ≤ f.length := numR_in hv
      rcases Nat.lt_or_ge N (at_ + 1 + v) with hs | hs
      · have hno : ∀ x, MsOk x → MsU x → plainB x = f → False := fun x hx hu hp => by have := (hyes x hx hu hp).2; omega
        focus (refine S_true rfl rfl ?_; refine S_seq rfl (S_region rfl rfl ?_); (iterate 2 refine R_p rfl ?_ rfl rfl); (refine R_eff (E_hv0 (f := 47) ⟨_, Tryd.func47, rfl, by kernel_rfl⟩ (fun w hS => number_e w A N c f (hbF.keep hS.kpO) (at_) 1 (by omega) (by decide) (by omega) _ _ hv) rfl rfl (fun _ => rfl)) ?_ rfl rfl; rintro _ _ ⟨_, rfl, _, rfl⟩); (iterate 2 refine R_p rfl ?_ rfl rfl); refine R_take (T_decT rfl (by omega)) ?_ rfl rfl; refine R_p rfl ?_ rfl rfl; refine R_take (T_decT rfl (by omega)) ?_ rfl rfl; refine R_nil (S_seq rfl (S_region rfl rfl ?_)); refine R_take (T_decT rfl (by omega)) ?_ rfl rfl; refine R_take (T_decT rfl (by omega)) ?_ rfl rfl; (iterate 3 refine R_p rfl ?_ rfl rfl); refine R_take (T_subN rfl rfl (by omega) (by unfold fits; omega)) ?_ rfl rfl; refine R_take (T_subN rfl rfl (by omega) (by unfold fits; omega)) ?_ rfl rfl; refine R_p rfl ?_ rfl rfl; refine R_take (T_convf rfl rfl rfl rfl (by unfold fits; omega)) ?_ rfl rfl; refine R_take (T_decF rfl (by omega)) ?_ rfl rfl; (iterate 2 refine R_p rfl ?_ rfl rfl); refine R_nil (S_seq rfl (S_region rfl rfl ?_)); refine R_p rfl ?_ rfl rfl; refine R_nil ?_; refine S_false rfl rfl ?_; refine S_skip rfl ?_)
        exact hJ (m, p, at_, false) _ _ ⟨rfl, hK, AgR.no hno, hmu, hwf, hbq, hbd, fun e => by cases e⟩ (Sub.cons rfl (Sub.cons rfl (Sub.cons rfl (Sub.cons rfl (Sub.cons rfl (Sub.cons rfl Sub.nil)))))) sub_st
      focus (refine S_true rfl rfl ?_; refine S_seq rfl (S_region rfl rfl ?_); (iterate 2 refine R_p rfl ?_ rfl rfl); (refine R_eff (E_hv0 (f := 47) ⟨_, Tryd.func47, rfl, by kernel_rfl⟩ (fun w hS => number_e w A N c f (hbF.keep hS.kpO) (at_) 1 (by omega) (by decide) (by omega) _ _ hv) rfl rfl (fun _ => rfl)) ?_ rfl rfl; rintro _ _ ⟨_, rfl, _, rfl⟩); (iterate 2 refine R_p rfl ?_ rfl rfl); refine R_take (T_decT rfl (by omega)) ?_ rfl rfl; refine R_p rfl ?_ rfl rfl; refine R_take (T_decT rfl (by omega)) ?_ rfl rfl; refine R_nil (S_seq rfl (S_region rfl rfl ?_)); refine R_take (T_decT rfl (by omega)) ?_ rfl rfl; refine R_take (T_decT rfl (by omega)) ?_ rfl rfl; (iterate 3 refine R_p rfl ?_ rfl rfl); refine R_take (T_subN rfl rfl (by omega) (by unfold fits; omega)) ?_ rfl rfl; refine R_take (T_subN rfl rfl (by omega) (by unfold fits; omega)) ?_ rfl rfl; refine R_p rfl ?_ rfl rfl; refine R_take (T_convf rfl rfl rfl rfl (by unfold fits; omega)) ?_ rfl rfl; refine R_take (T_decT rfl (by omega)) ?_ rfl rfl; refine R_take (T_decT rfl (by omega)) ?_ rfl rfl; refine R_take (T_decT rfl (by omega)) ?_ rfl rfl; refine R_nil (S_seq rfl (S_region rfl rfl ?_)); refine R_take (T_decT rfl (by omega)) ?_ rfl rfl; refine R_nil ?_; refine S_true rfl rfl ?_; refine S_seq rfl ?_; refine S_seq rfl (S_region rfl rfl ?_); refine R_p rfl ?_ rfl rfl; refine R_nil ?_; refine S_block rfl ?_)
      refine S_loop (X := Nat × (Option Addr × Nat) × List Int) (fun y => [(2, .pointer (some ⟨b2, 0, none⟩)), (4, .slice A N c), (6, .pointer (some ⟨b6, 0, none⟩)), (7, .int .i64 (at_ : Int)), (8, .bool true), (9, .int .i64 K0), (25, .int .u64 (v : Int)), (27, .int .i64 (y.1 : Int))]) (fun y => [pt b2 31 (mgc Z0 P0), pt b6 31 (mgc ⟨m.K, m.F, m.T, m.tm, m.pl, m.es, m.cm, m.ok, m.ix, y.2.2, m.dt⟩ ⟨p.A, p.n, p.c, y.2.1.1, y.1, y.2.1.2, none, 0, 0, p.Q⟩), row 46 3 p.A p.n p.c (cellsL emc p.Q), row 3 1 y.2.1.1 y.1 y.2.1.2 ((y.2.2).map zv)]) (fun y => y.1 ≤ v ∧ y.2.2.length = y.1 ∧ AgRC f m v y.1 y.2.2 (at_ + 1)) (fun y => v - y.1) rfl (0, (none, 0), []) ⟨Nat.zero_le _, rfl, hac⟩ (Sub.cons rfl (Sub.cons rfl (Sub.cons rfl (Sub.cons rfl (Sub.cons rfl (Sub.cons rfl (Sub.cons rfl (Sub.cons rfl Sub.nil)))))))) (fun w' hS => ?_) ?_
      · have h9 := sub_st (H' := [pt b2 31 (mgc Z0 P0), pt b6 31 (mgc m p), row 46 3 p.A p.n p.c (cellsL emc p.Q), row 3 1 p.cA p.cn p.cc (m.cf.map zv)]) w' hS
        rw [hpx, hc0] at h9
        exact h9
      rintro ⟨j, ⟨A1, c1⟩, L⟩ ⟨hj, hLj, hae⟩ J2 hJ2
      dsimp only at hj hLj hae ⊢
      rcases Nat.lt_or_ge j v with hjl | hjl
      · skip
        focus (refine S_seq rfl ?_; refine S_seq rfl (S_region rfl rfl ?_); (iterate 2 refine R_p rfl ?_ rfl rfl); refine R_take (T_convf rfl rfl rfl rfl (by unfold fits; omega)) ?_ rfl rfl; refine R_take (T_decT rfl (by omega)) ?_ rfl rfl; refine R_nil ?_; refine S_true rfl rfl ?_; refine S_skip rfl ?_; refine S_seq rfl ?_; refine S_block rfl ?_)
        have hu0 := UInt8.toNat_lt (f.getD (at_ + 1 + j) 0)
        refine S_draw ([pt b6 31 (mgc ⟨m.K, m.F, m.T, m.tm, m.pl, m.es, m.cm, m.ok, m.ix, L, m.dt⟩ ⟨p.A, p.n, p.c, A1, j, c1, none, 0, 0, p.Q⟩)]) sub_st (by kernel_rfl) rfl (by kernel_rfl) (by kernel_rfl : _ = 16) ?_
        refine D_take 0 rfl (pev_ok rfl) ?_ rfl rfl (by kernel_rfl) (by kernel_rfl)
        refine D_take 1 rfl (pev_ok rfl) ?_ rfl rfl (by kernel_rfl) (by kernel_rfl)
        refine D_take 2 rfl (T_load rfl rfl rfl rfl) ?_ rfl rfl (by kernel_rfl) (by kernel_rfl)
        refine D_take 3 rfl (pev_ok rfl) ?_ rfl rfl (by kernel_rfl) (by kernel_rfl)
        refine D_take 4 rfl (pev_ok rfl) ?_ rfl rfl (by kernel_rfl) (by kernel_rfl)
        (refine D_take 5 rfl (T_addN (p := at_) (q := 1) rfl rfl (by unfold fits; omega)) ?_ rfl rfl (by kernel_rfl) (by kernel_rfl))
        refine D_take 6 rfl (pev_ok rfl) ?_ rfl rfl (by kernel_rfl) (by kernel_rfl)
        (refine D_take 7 rfl (T_addN (p := at_ + 1) (q := j) rfl rfl (by unfold fits; omega)) ?_ rfl rfl (by kernel_rfl) (by kernel_rfl))
        refine D_take 8 rfl (T_ixN rfl rfl rfl rfl rfl rfl (hne (by omega)) (by omega)) ?_ rfl rfl (by kernel_rfl) (by kernel_rfl)
        refine D_take 9 rfl (T_ldb (j := at_ + 1 + j) rfl rfl rfl (Src.old hbF (fun k _ => noOwns k)) (by omega)) ?_ rfl rfl (by kernel_rfl) (by kernel_rfl)
        (refine D_take 10 rfl (T_convf rfl rfl rfl rfl (by unfold fits; omega)) ?_ rfl rfl (by kernel_rfl) (by kernel_rfl))
        refine D_one 11 rfl (E_lit1 (m := 1) (vs := [.int .i64 ((f.getD (at_ + 1 + j) 0).toNat : Int)]) rfl rfl rfl rfl rfl rfl rfl (by simp [Value.oneCell']) (by decide)) ?_ rfl rfl (by kernel_rfl)
        rintro _ _ ⟨vb, rfl, rfl⟩
        refine Nx_same sub_st ?_
        refine D_one 12 rfl (E_app1 (A := A1) (m := j) (c := c1) (xs := L.map zv) (news := [.int .i64 ((f.getD (at_ + 1 + j) 0).toNat : Int)]) rfl rfl rfl rfl rfl rfl rfl (Srd.pt (n := 1) (g := vb) (size := 1) (ds := [.int .i64 ((f.getD (at_ + 1 + j) 0).toNat : Int)]) rfl (fun j u hj => by rw [Nat.zero_add]; exact hj)) (by simp [Value.oneCell']) (by show (j + 1) * 8 ≤ _; omega) (by unfold maxLen; omega)) ?_ rfl rfl (by kernel_rfl)
        rintro _ _ ⟨A2, c2, rfl, rfl⟩
        refine Nx_same sub_st ?_
        refine D_take 13 rfl (pev_ok rfl) ?_ rfl rfl (by kernel_rfl) (by kernel_rfl)
        refine D_take 14 rfl (pev_ok rfl) ?_ rfl rfl (by kernel_rfl) (by kernel_rfl)
        refine D_one 15 rfl (E_storeA1 (gb := b6) (t := 31) (cs := mgc ⟨m.K, m.F, m.T, m.tm, m.pl, m.es, m.cm, m.ok, m.ix, L, m.dt⟩ ⟨p.A, p.n, p.c, A1, j, c1, none, 0, 0, p.Q⟩) (v := .slice A2 (j + 1) c2) (cs' := mgc ⟨m.K, m.F, m.T, m.tm, m.pl, m.es, m.cm, m.ok, m.ix, (L ++ [((f.getD (at_ + 1 + j) 0).toNat : Int)]), m.dt⟩ ⟨p.A, p.n, p.c, A2, (j + 1), c2, none, 0, 0, p.Q⟩) rfl rfl rfl rfl rfl rfl (by show 10 < 12; omega)) ?_ rfl rfl (by kernel_rfl)
        rintro _ _ rfl
        refine Nx_pivot (by kernel_rfl) ?_
        refine D_done ?_ (by kernel_rfl)
        skip
        focus (refine RS_blk ?_; refine S_region rfl rfl ?_; refine R_p rfl ?_ rfl rfl; refine R_take (T_addN rfl rfl (by unfold fits; omega)) ?_ rfl rfl; refine R_p rfl ?_ rfl rfl; refine R_nil ?_)
        refine hJ2 (j + 1, (A2, c2), L ++ [((f.getD (at_ + 1 + j) 0).toNat : Int)]) _ _ ⟨by show j + 1 ≤ v; omega, by dsimp only; rw [List.length_append, hLj]; rfl, ar_cf2 hae hjl⟩ (Sub.cons rfl (Sub.cons rfl (Sub.cons rfl (Sub.cons rfl (Sub.cons rfl (Sub.cons rfl (Sub.cons rfl (Sub.cons rfl Sub.nil)))))))) (fun w' hS => ?_) (by show v - (j + 1) < v - j; omega)
        have e1 : (L ++ [((f.getD (at_ + 1 + j) 0).toNat : Int)]).map zv = L.map zv ++ [.int .i64 ((f.getD (at_ + 1 + j) 0).toNat : Int)] := by rw [List.map_append]; rfl
        show St _ _ [pt b2 31 (mgc Z0 P0), pt b6 31 (mgc ⟨m.K, m.F, m.T, m.tm, m.pl, m.es, m.cm, m.ok, m.ix, (L ++ [((f.getD (at_ + 1 + j) 0).toNat : Int)]), m.dt⟩ ⟨p.A, p.n, p.c, A2, (j + 1), c2, none, 0, 0, p.Q⟩), row 46 3 p.A p.n p.c (cellsL emc p.Q), row 3 1 A2 (j + 1) c2 (((L ++ [((f.getD (at_ + 1 + j) 0).toNat : Int)])).map zv)] w'
        rw [e1]
        exact sub_st w' hS
      obtain rfl : j = v := by omega
      have h8 := ar_cf3 hae
      obtain ⟨⟨sz, sc⟩, hsv⟩ : ∃ r, numR f (at_ + 1 + j) 4 = r := ⟨_, rfl⟩
      have h7 := ar_dt h8 (by show hasB m.K 64 = true; rw [hb64]; rw [hb32] at hb; exact hb) hsv
      have hsz : sz < 4294967296 := numR_lt hsv
      cases sc
      · focus (refine S_seq rfl ?_; refine S_seq rfl (S_region rfl rfl ?_); (iterate 2 refine R_p rfl ?_ rfl rfl); refine R_take (T_convf rfl rfl rfl rfl (by unfold fits; omega)) ?_ rfl rfl; refine R_take (T_decF rfl (by omega)) ?_ rfl rfl; refine R_nil ?_; refine S_false rfl rfl ?_; refine S_exit rfl rfl ?_; refine S_seq rfl (S_region rfl rfl ?_); refine R_p rfl ?_ rfl rfl; refine R_take (T_addN (p := at_) (q := 1) rfl rfl (by unfold fits; omega)) ?_ rfl rfl; refine R_p rfl ?_ rfl rfl; refine R_take (T_convf rfl rfl rfl rfl (by unfold fits; omega)) ?_ rfl rfl; refine R_take (T_addN (p := at_ + 1) (q := j) rfl rfl (by unfold fits; omega)) ?_ rfl rfl; refine R_p rfl ?_ rfl rfl; refine R_nil (S_seq rfl (S_region rfl rfl ?_)); (iterate 2 refine R_p rfl ?_ rfl rfl); (refine R_eff (E_hv0 (f := 47) ⟨_, Tryd.func47, rfl, by kernel_rfl⟩ (fun w hS => number_e w A N c f (hbF.keep hS.kpO) (at_ + 1 + j) 4 (by omega) (by decide) (by omega) _ _ hsv) rfl rfl (fun _ => rfl)) ?_ rfl rfl; rintro _ _ ⟨_, rfl, _, rfl⟩); (iterate 5 refine R_p rfl ?_ rfl rfl); refine R_nil (S_seq rfl (S_region rfl rfl ?_)); (iterate 2 refine R_p rfl ?_ rfl rfl); (iterate 8 refine R_skip ?_ rfl rfl); (iterate 2 refine R_p rfl ?_ rfl rfl); refine R_nil (S_seq rfl (S_region rfl rfl ?_)); refine R_p rfl ?_ rfl rfl; refine R_nil ?_; refine S_false rfl rfl ?_; refine S_skip rfl ?_)
        exact hJ (⟨m.K, m.F, m.T, m.tm, m.pl, m.es, m.cm, m.ok, m.ix, L, m.dt⟩, ⟨p.A, p.n, p.c, A1, j, c1, none, 0, 0, p.Q⟩, (at_ + 1 + j), false) _ _ ⟨rfl, hK, AgR.any h7 rfl, ⟨hmu.tm, hmu.p1, hmu.p2, hmu.cm, hmu.ix, hmu.es⟩, ⟨hwf.1, hwf.2, hLj, by rw [hwf.4, hpx]⟩, hbq, (by rw [hpx] at hbd; exact hbd), fun e => by cases e⟩ (Sub.cons rfl (Sub.cons rfl (Sub.cons rfl (Sub.cons rfl (Sub.cons rfl (Sub.cons rfl Sub.nil)))))) sub_st
      have hin4 : at_ + 1 + j + 4 ≤ f.length := numR_in hsv
      rcases Nat.lt_or_ge N (at_ + 1 + j + 4 + sz) with hs4 | hs4
      · focus (refine S_seq rfl ?_; refine S_seq rfl (S_region rfl rfl ?_); (iterate 2 refine R_p rfl ?_ rfl rfl); refine R_take (T_convf rfl rfl rfl rfl (by unfold fits; omega)) ?_ rfl rfl; refine R_take (T_decF rfl (by omega)) ?_ rfl rfl; refine R_nil ?_; refine S_false rfl rfl ?_; refine S_exit rfl rfl ?_; refine S_seq rfl (S_region rfl rfl ?_); refine R_p rfl ?_ rfl rfl; refine R_take (T_addN (p := at_) (q := 1) rfl rfl (by unfold fits; omega)) ?_ rfl rfl; refine R_p rfl ?_ rfl rfl; refine R_take (T_convf rfl rfl rfl rfl (by unfold fits; omega)) ?_ rfl rfl; refine R_take (T_addN (p := at_ + 1) (q := j) rfl rfl (by unfold fits; omega)) ?_ rfl rfl; refine R_p rfl ?_ rfl rfl; refine R_nil (S_seq rfl (S_region rfl rfl ?_)); (iterate 2 refine R_p rfl ?_ rfl rfl); (refine R_eff (E_hv0 (f := 47) ⟨_, Tryd.func47, rfl, by kernel_rfl⟩ (fun w hS => number_e w A N c f (hbF.keep hS.kpO) (at_ + 1 + j) 4 (by omega) (by decide) (by omega) _ _ hsv) rfl rfl (fun _ => rfl)) ?_ rfl rfl; rintro _ _ ⟨_, rfl, _, rfl⟩); (iterate 2 refine R_p rfl ?_ rfl rfl); refine R_take (T_decT rfl (by omega)) ?_ rfl rfl; refine R_p rfl ?_ rfl rfl; refine R_take (T_decT rfl (by omega)) ?_ rfl rfl; refine R_nil (S_seq rfl (S_region rfl rfl ?_)); refine R_take (T_decT rfl (by omega)) ?_ rfl rfl; refine R_take (T_decT rfl (by omega)) ?_ rfl rfl; (iterate 3 refine R_p rfl ?_ rfl rfl); refine R_take (T_subN rfl rfl (by omega) (by unfold fits; omega)) ?_ rfl rfl; refine R_take (T_subN rfl rfl (by omega) (by unfold fits; omega)) ?_ rfl rfl; refine R_take (T_convf rfl rfl rfl rfl (by unfold fits; omega)) ?_ rfl rfl; refine R_p rfl ?_ rfl rfl; refine R_take (T_decF rfl (by omega)) ?_ rfl rfl; (iterate 2 refine R_p rfl ?_ rfl rfl); refine R_nil (S_seq rfl (S_region rfl rfl ?_)); refine R_p rfl ?_ rfl rfl; refine R_nil ?_; refine S_false rfl rfl ?_; refine S_skip rfl ?_)
        exact hJ (⟨m.K, m.F, m.T, m.tm, m.pl, m.es, m.cm, m.ok, m.ix, L, m.dt⟩, ⟨p.A, p.n, p.c, A1, j, c1, none, 0, 0, p.Q⟩, (at_ + 1 + j), false) _ _ ⟨rfl, hK, AgR.any h7 (by simp; omega), ⟨hmu.tm, hmu.p1, hmu.p2, hmu.cm, hmu.ix, hmu.es⟩, ⟨hwf.1, hwf.2, hLj, by rw [hwf.4, hpx]⟩, hbq, (by rw [hpx] at hbd; exact hbd), fun e => by cases e⟩ (Sub.cons rfl (Sub.cons rfl (Sub.cons rfl (Sub.cons rfl (Sub.cons rfl (Sub.cons rfl Sub.nil)))))) sub_st
      obtain ⟨dd, hdd⟩ : ∃ d, (f.drop (at_ + 1 + j + 4)).take sz = d := ⟨_, rfl⟩
      have hdl : sz = dd.length := by rw [← hdd, List.length_take, List.length_drop]; omega
      rw [hdd, show (true && decide (at_ + 1 + j + 4 + sz ≤ f.length)) = true by simp; omega] at h7
      subst hdl
      have hbs : ∀ w', Bs w' All A N c f → Bs w' All (cutP A c (at_ + 1 + j + 4) 1) dd.length (c - (at_ + 1 + j + 4)) dd := fun w' hw => by have h9 := part_at hw (q := at_ + 1 + j + 4) (k := dd.length) (by omega); rw [hdd] at h9; exact h9
      focus (refine S_seq rfl ?_; refine S_seq rfl (S_region rfl rfl ?_); (iterate 2 refine R_p rfl ?_ rfl rfl); refine R_take (T_convf rfl rfl rfl rfl (by unfold fits; omega)) ?_ rfl rfl; refine R_take (T_decF rfl (by omega)) ?_ rfl rfl; refine R_nil ?_; refine S_false rfl rfl ?_; refine S_exit rfl rfl ?_; refine S_seq rfl (S_region rfl rfl ?_); refine R_p rfl ?_ rfl rfl; refine R_take (T_addN (p := at_) (q := 1) rfl rfl (by unfold fits; omega)) ?_ rfl rfl; refine R_p rfl ?_ rfl rfl; refine R_take (T_convf rfl rfl rfl rfl (by unfold fits; omega)) ?_ rfl rfl; refine R_take (T_addN (p := at_ + 1) (q := j) rfl rfl (by unfold fits; omega)) ?_ rfl rfl; refine R_p rfl ?_ rfl rfl; refine R_nil (S_seq rfl (S_region rfl rfl ?_)); (iterate 2 refine R_p rfl ?_ rfl rfl); (refine R_eff (E_hv0 (f := 47) ⟨_, Tryd.func47, rfl, by kernel_rfl⟩ (fun w hS => number_e w A N c f (hbF.keep hS.kpO) (at_ + 1 + j) 4 (by omega) (by decide) (by omega) _ _ hsv) rfl rfl (fun _ => rfl)) ?_ rfl rfl; rintro _ _ ⟨_, rfl, _, rfl⟩); (iterate 2 refine R_p rfl ?_ rfl rfl); refine R_take (T_decT rfl (by omega)) ?_ rfl rfl; refine R_p rfl ?_ rfl rfl; refine R_take (T_decT rfl (by omega)) ?_ rfl rfl; refine R_nil (S_seq rfl (S_region rfl rfl ?_)); refine R_take (T_decT rfl (by omega)) ?_ rfl rfl; refine R_take (T_decT rfl (by omega)) ?_ rfl rfl; (iterate 3 refine R_p rfl ?_ rfl rfl); refine R_take (T_subN rfl rfl (by omega) (by unfold fits; omega)) ?_ rfl rfl; refine R_take (T_subN rfl rfl (by omega) (by unfold fits; omega)) ?_ rfl rfl; refine R_take (T_convf rfl rfl rfl rfl (by unfold fits; omega)) ?_ rfl rfl; refine R_p rfl ?_ rfl rfl; refine R_take (T_decT rfl (by omega)) ?_ rfl rfl; refine R_take (T_decT rfl (by omega)) ?_ rfl rfl; refine R_take (T_decT rfl (by omega)) ?_ rfl rfl; refine R_nil (S_seq rfl (S_region rfl rfl ?_)); refine R_take (T_decT rfl (by omega)) ?_ rfl rfl; refine R_nil ?_; refine S_true rfl rfl ?_; refine S_seq rfl (S_region rfl rfl ?_); (iterate 2 refine R_p rfl ?_ rfl rfl); refine R_take (T_addN (p := at_ + 1 + j) (q := 4) rfl rfl (by unfold fits; omega)) ?_ rfl rfl; refine R_p rfl ?_ rfl rfl; refine R_take (T_addN (p := at_ + 1 + j) (q := 4) rfl rfl (by unfold fits; omega)) ?_ rfl rfl; refine R_p rfl ?_ rfl rfl; refine R_take (T_convf rfl rfl rfl rfl (by unfold fits; omega)) ?_ rfl rfl; refine R_take (T_addN (p := at_ + 1 + j + 4) (q := dd.length) rfl rfl (by unfold fits; omega)) ?_ rfl rfl; refine R_take (T_slbE (u := dd.length) (q := at_ + 1 + j + 4) (r := at_ + 1 + j + 4 + dd.length) (by omega) rfl rfl rfl rfl rfl rfl rfl (by omega) (by omega)) ?_ rfl rfl; refine R_p rfl ?_ rfl rfl; (refine R_eff0 (E_storeA1 (gb := b6) (t := 31) (cs := mgc ⟨m.K, m.F, m.T, m.tm, m.pl, m.es, m.cm, m.ok, m.ix, L, m.dt⟩ ⟨p.A, p.n, p.c, A1, j, c1, none, 0, 0, p.Q⟩) (v := .slice (cutP A c (at_ + 1 + j + 4) 1) dd.length (c - (at_ + 1 + j + 4))) (cs' := mgc ⟨m.K, m.F, m.T, m.tm, m.pl, m.es, m.cm, m.ok, m.ix, L, dd⟩ ⟨p.A, p.n, p.c, A1, j, c1, cutP A c (at_ + 1 + j + 4) 1, dd.length, c - (at_ + 1 + j + 4), p.Q⟩) rfl rfl rfl rfl rfl rfl (by show 11 < 12; omega)) ?_ rfl; rintro _ _ rfl); refine R_nil ?_; refine S_region rfl rfl ?_; refine R_p rfl ?_ rfl rfl; refine R_take (T_addN (p := at_ + 1 + j) (q := 4) rfl rfl (by unfold fits; omega)) ?_ rfl rfl; refine R_p rfl ?_ rfl rfl; refine R_take (T_convf rfl rfl rfl rfl (by unfold fits; omega)) ?_ rfl rfl; refine R_take (T_addN (p := at_ + 1 + j + 4) (q := dd.length) rfl rfl (by unfold fits; omega)) ?_ rfl rfl; refine R_p rfl ?_ rfl rfl; refine R_nil ?_)
      exact hJ (⟨m.K, m.F, m.T, m.tm, m.pl, m.es, m.cm, m.ok, m.ix, L, dd⟩, ⟨p.A, p.n, p.c, A1, j, c1, cutP A c (at_ + 1 + j + 4) 1, dd.length, c - (at_ + 1 + j + 4), p.Q⟩, (at_ + 1 + j + 4 + dd.length), true) _ _ ⟨rfl, hK, h7, ⟨hmu.tm, hmu.p1, hmu.p2, hmu.cm, hmu.ix, hmu.es⟩, ⟨hwf.1, hwf.2, hLj, rfl⟩, hbq, hbs, fun _ => hs4⟩ (Sub.cons rfl (Sub.cons rfl (Sub.cons rfl (Sub.cons rfl (Sub.cons rfl (Sub.cons rfl Sub.nil)))))) sub_st
  clear hpx hag hmu hwf hbq hbd hat hK hrb rb m p at_ g
  obtain ⟨m, p, at_, g⟩ := y
  dsimp only at hy ⊢
  obtain ⟨_, hK, hag, hmu, hwf, hbq, hbd, hat⟩ := hy
  have hfin : ∀ x, DecP (f ++ e) x → g = true ∧ at_ = N ∧ m = x := fun x hx => by
    obtain ⟨_, h2, h3, h4⟩ := decP_f hel hx
    obtain ⟨a1, a2, a4, a3⟩ := hag x h2 h3 h4
    refine ⟨a1, ?_, a3⟩
    have a5 := congrArg List.length a4
    rw [List.length_drop] at a5
    have : (r7 x).length = 0 := rfl
    omega
  cases g
  · skip
    focus (refine S_seq rfl ?_; refine S_seq rfl (S_region rfl rfl ?_); refine R_p rfl ?_ rfl rfl; refine R_take (T_not rfl) ?_ rfl rfl; refine R_p rfl ?_ rfl rfl; (iterate 4 refine R_skip ?_ rfl rfl); (iterate 2 refine R_p rfl ?_ rfl rfl); (iterate 3 refine R_skip ?_ rfl rfl); (iterate 2 refine R_p rfl ?_ rfl rfl); (iterate 5 refine R_skip ?_ rfl rfl); refine R_p rfl ?_ rfl rfl; refine R_nil ?_; refine S_true rfl rfl ?_; refine S_seq rfl (S_region rfl rfl ?_); refine R_take (T_build0 mg_built0) ?_ rfl rfl; (refine R_eff0 (E_storew (cs := mgc Z0 P0) (ds := mgc Z0 P0) rfl rfl rfl rfl (mgc_one _ _) rfl) ?_ rfl; rintro _ _ rfl); refine R_p rfl ?_ rfl rfl; refine R_nil ?_)
    exact hB _ _ _ _ _ rfl (.cell rfl rfl rfl inferInstance rfl (.tmp rfl .nil)) fun w' hS => ⟨(Z0, P0, 231), rfl, ⟨⟨rfl, rfl, rfl, rfl⟩, (fun w' hw e he => absurd he (by simp)), fun w' hw => Bs.nil _ _, .inr ⟨rfl, rfl, rfl, fun x hx => by have := (hfin x hx).1; cases this⟩⟩, sub_st (H' := [row 46 3 none 0 0 [], row 3 1 none 0 0 []]) w' ((hS.nilrow 46 3).nilrow 3 1)⟩
  by_cases hw0 : at_ = N
  rotate_left
  · skip
    focus (refine S_seq rfl ?_; refine S_seq rfl (S_region rfl rfl ?_); refine R_p rfl ?_ rfl rfl; refine R_take (T_not rfl) ?_ rfl rfl; (iterate 4 refine R_p rfl ?_ rfl rfl); refine R_take (T_decT rfl (by omega)) ?_ rfl rfl; (iterate 2 refine R_p rfl ?_ rfl rfl); (iterate 3 refine R_skip ?_ rfl rfl); (iterate 2 refine R_p rfl ?_ rfl rfl); (iterate 5 refine R_skip ?_ rfl rfl); refine R_p rfl ?_ rfl rfl; refine R_nil ?_; refine S_true rfl rfl ?_; refine S_seq rfl (S_region rfl rfl ?_); refine R_take (T_build0 mg_built0) ?_ rfl rfl; (refine R_eff0 (E_storew (cs := mgc Z0 P0) (ds := mgc Z0 P0) rfl rfl rfl rfl (mgc_one _ _) rfl) ?_ rfl; rintro _ _ rfl); refine R_p rfl ?_ rfl rfl; refine R_nil ?_)
    exact hB _ _ _ _ _ rfl (.cell rfl rfl rfl inferInstance rfl (.tmp rfl .nil)) fun w' hS => ⟨(Z0, P0, 231), rfl, ⟨⟨rfl, rfl, rfl, rfl⟩, (fun w' hw e he => absurd he (by simp)), fun w' hw => Bs.nil _ _, .inr ⟨rfl, rfl, rfl, fun x hx => hw0 (hfin x hx).2.1⟩⟩, sub_st (H' := [row 46 3 none 0 0 [], row 3 1 none 0 0 []]) w' ((hS.nilrow 46 3).nilrow 3 1)⟩
  cases hrm : rightM m
  · skip
    focus (refine S_seq rfl ?_; refine S_seq rfl (S_region rfl rfl ?_); refine R_p rfl ?_ rfl rfl; refine R_take (T_not rfl) ?_ rfl rfl; (iterate 4 refine R_p rfl ?_ rfl rfl); refine R_take (T_decF rfl (by omega)) ?_ rfl rfl; (iterate 2 refine R_p rfl ?_ rfl rfl); refine R_take (T_loads (ds := mgc m p) rfl rfl rfl rfl rfl) ?_ rfl rfl; (refine R_eff (E_hv0 (f := 14) ⟨_, Tryd.func14, rfl, by kernel_rfl⟩ (fun w hS => rightM_any w m p (own_msrD hS (by simp) (by simp) (fun e he => hbq w (hbF.keep hS.kpO) e he) (hbd w (hbF.keep hS.kpO)) hwf) _ hrm) rfl rfl (fun _ => rfl)) ?_ rfl rfl; rintro _ _ ⟨_, rfl, _, rfl⟩); refine R_take (T_not rfl) ?_ rfl rfl; refine R_take (T_decT rfl (by omega)) ?_ rfl rfl; refine R_take (T_decT rfl (by omega)) ?_ rfl rfl; (iterate 5 refine R_skip ?_ rfl rfl); refine R_take (T_decT rfl (by omega)) ?_ rfl rfl; refine R_nil ?_; refine S_true rfl rfl ?_; refine S_seq rfl (S_region rfl rfl ?_); refine R_take (T_build0 mg_built0) ?_ rfl rfl; (refine R_eff0 (E_storew (cs := mgc Z0 P0) (ds := mgc Z0 P0) rfl rfl rfl rfl (mgc_one _ _) rfl) ?_ rfl; rintro _ _ rfl); refine R_p rfl ?_ rfl rfl; refine R_nil ?_)
    exact hB _ _ _ _ _ rfl (.cell rfl rfl rfl inferInstance rfl (.tmp rfl .nil)) fun w' hS => ⟨(Z0, P0, 231), rfl, ⟨⟨rfl, rfl, rfl, rfl⟩, (fun w' hw e he => absurd he (by simp)), fun w' hw => Bs.nil _ _, .inr ⟨rfl, rfl, rfl, fun x hx => by rw [(hfin x hx).2.2] at hrm; rw [right_ok.2 (decP_f hel hx).2.1] at hrm; cases hrm⟩⟩, sub_st (H' := [row 46 3 none 0 0 [], row 3 1 none 0 0 []]) w' ((hS.nilrow 46 3).nilrow 3 1)⟩
  have hok := right_ok.1 hrm
  cases hr2 : decide (plainB m = f)
  · skip
    focus (refine S_seq rfl ?_; refine S_seq rfl (S_region rfl rfl ?_); refine R_p rfl ?_ rfl rfl; refine R_take (T_not rfl) ?_ rfl rfl; (iterate 4 refine R_p rfl ?_ rfl rfl); refine R_take (T_decF rfl (by omega)) ?_ rfl rfl; (iterate 2 refine R_p rfl ?_ rfl rfl); refine R_take (T_loads (ds := mgc m p) rfl rfl rfl rfl rfl) ?_ rfl rfl; (refine R_eff (E_hv0 (f := 14) ⟨_, Tryd.func14, rfl, by kernel_rfl⟩ (fun w hS => rightM_any w m p (own_msrD hS (by simp) (by simp) (fun e he => hbq w (hbF.keep hS.kpO) e he) (hbd w (hbF.keep hS.kpO)) hwf) _ hrm) rfl rfl (fun _ => rfl)) ?_ rfl rfl; rintro _ _ ⟨_, rfl, _, rfl⟩); refine R_take (T_not rfl) ?_ rfl rfl; (iterate 2 refine R_p rfl ?_ rfl rfl); refine R_take (T_loads (ds := mgc m p) rfl rfl rfl rfl rfl) ?_ rfl rfl; (refine R_eff (E_hv1 (f := 33) ⟨_, Tryd.func33, rfl, by kernel_rfl⟩ (fun w hS => plainD_k w m p (own_msrD hS (by simp) (by simp) (fun e he => hbq w (hbF.keep hS.kpO) e he) (hbd w (hbF.keep hS.kpO)) hwf) hmu hok (plainB m) (plainB m).length rfl rfl) rfl rfl (fun _ => rfl)) ?_ rfl rfl; rintro _ _ ⟨⟨A9, c9⟩, rfl, _, rfl⟩); refine R_p rfl ?_ rfl rfl; (refine R_eff (E_hv0 (f := 15) ⟨_, Tryd.func15, rfl, by kernel_rfl⟩ (fun w hS => s01_k w A9 A (plainB m).length c9 N c (plainB m) f (row_bs (e := 5) hS (by simp) rfl) (hbF.keep hS.kpO) _ hr2) rfl rfl (fun _ => rfl)) ?_ rfl rfl; rintro _ _ ⟨_, rfl, _, rfl⟩); refine R_take (T_not rfl) ?_ rfl rfl; refine R_take (T_decT rfl (by omega)) ?_ rfl rfl; refine R_nil ?_; refine S_true rfl rfl ?_; refine S_seq rfl (S_region rfl rfl ?_); refine R_take (T_build0 mg_built0) ?_ rfl rfl; (refine R_eff0 (E_storew (cs := mgc Z0 P0) (ds := mgc Z0 P0) rfl rfl rfl rfl (mgc_one _ _) rfl) ?_ rfl; rintro _ _ rfl); refine R_p rfl ?_ rfl rfl; refine R_nil ?_)
    exact hB _ _ _ _ _ rfl (.cell rfl rfl rfl inferInstance rfl (.tmp rfl .nil)) fun w' hS => ⟨(Z0, P0, 231), rfl, ⟨⟨rfl, rfl, rfl, rfl⟩, (fun w' hw e he => absurd he (by simp)), fun w' hw => Bs.nil _ _, .inr ⟨rfl, rfl, rfl, fun x hx => of_decide_eq_false hr2 (by rw [(hfin x hx).2.2]; exact (decP_f hel hx).2.2.2)⟩⟩, sub_st (H' := [row 46 3 none 0 0 [], row 3 1 none 0 0 []]) w' ((hS.nilrow 46 3).nilrow 3 1)⟩
  · skip
    focus (refine S_seq rfl ?_; refine S_seq rfl (S_region rfl rfl ?_); refine R_p rfl ?_ rfl rfl; refine R_take (T_not rfl) ?_ rfl rfl; (iterate 4 refine R_p rfl ?_ rfl rfl); refine R_take (T_decF rfl (by omega)) ?_ rfl rfl; (iterate 2 refine R_p rfl ?_ rfl rfl); refine R_take (T_loads (ds := mgc m p) rfl rfl rfl rfl rfl) ?_ rfl rfl; (refine R_eff (E_hv0 (f := 14) ⟨_, Tryd.func14, rfl, by kernel_rfl⟩ (fun w hS => rightM_any w m p (own_msrD hS (by simp) (by simp) (fun e he => hbq w (hbF.keep hS.kpO) e he) (hbd w (hbF.keep hS.kpO)) hwf) _ hrm) rfl rfl (fun _ => rfl)) ?_ rfl rfl; rintro _ _ ⟨_, rfl, _, rfl⟩); refine R_take (T_not rfl) ?_ rfl rfl; (iterate 2 refine R_p rfl ?_ rfl rfl); refine R_take (T_loads (ds := mgc m p) rfl rfl rfl rfl rfl) ?_ rfl rfl; (refine R_eff (E_hv1 (f := 33) ⟨_, Tryd.func33, rfl, by kernel_rfl⟩ (fun w hS => plainD_k w m p (own_msrD hS (by simp) (by simp) (fun e he => hbq w (hbF.keep hS.kpO) e he) (hbd w (hbF.keep hS.kpO)) hwf) hmu hok (plainB m) (plainB m).length rfl rfl) rfl rfl (fun _ => rfl)) ?_ rfl rfl; rintro _ _ ⟨⟨A9, c9⟩, rfl, _, rfl⟩); refine R_p rfl ?_ rfl rfl; (refine R_eff (E_hv0 (f := 15) ⟨_, Tryd.func15, rfl, by kernel_rfl⟩ (fun w hS => s01_k w A9 A (plainB m).length c9 N c (plainB m) f (row_bs (e := 5) hS (by simp) rfl) (hbF.keep hS.kpO) _ hr2) rfl rfl (fun _ => rfl)) ?_ rfl rfl; rintro _ _ ⟨_, rfl, _, rfl⟩); refine R_take (T_not rfl) ?_ rfl rfl; refine R_p rfl ?_ rfl rfl; refine R_nil ?_; refine S_false rfl rfl ?_; refine S_skip rfl ?_; refine S_seq rfl (S_region rfl rfl ?_); refine R_take (T_loads (ds := mgc m p) rfl rfl rfl rfl rfl) ?_ rfl rfl; (refine R_eff0 (E_storew (cs := mgc Z0 P0) (ds := mgc m p) rfl rfl rfl rfl (mgc_one _ _) rfl) ?_ rfl; rintro _ _ rfl); refine R_p rfl ?_ rfl rfl; refine R_nil ?_)
    exact hB _ _ _ _ _ rfl (.cell rfl rfl rfl inferInstance rfl (.tmp rfl .nil)) fun w' hS => ⟨(m, p, 0), rfl, ⟨hwf, fun w' hw => hbq w' (hfw w' hw), fun w' hw => hbd w' (hfw w' hw), .inl ⟨rfl, ⟨f, by rw [hse], hok, hmu, of_decide_eq_true hr2⟩, fun x hx => (hfin x hx).2.2⟩⟩, sub_st w' hS⟩
end Go.Proofs.YtdbehejbeioboaaDoor
