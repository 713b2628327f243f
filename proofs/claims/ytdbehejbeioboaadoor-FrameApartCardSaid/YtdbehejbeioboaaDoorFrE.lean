/- Messages: Decode. -/
import Derived.Test.YtdbehejbeioboaaDoorFrD
namespace Go.Proofs.YtdbehejbeioboaaDoor
open Go.RowKit
open Asn (pt row rb)
set_option linter.unusedVariables false
set_option linter.unusedSimpArgs false
--@use N

theorem E_htG {P : Program} {n : Nat} {w0 : World} {M : Nat → Prop} {T : Slots} {H Hr : List Asn} {dd : Option Tmp} {tt : TypeId} {pos : String} {af : Array Edge} {g : Option (Nat × Bool)} {ts : Array TypeId} {f : FuncId} {xs : Array Operand} {vs vs' : List Value} {X : Type} {V : X → Value} {I : X → Prop} {A : X → List Asn} {A1 : Asn} [h1 : RemC H A1 Hr] (hf : Fn_ P f) (hc : ∀ w, St w0 M (A1 :: Hr) w → St w (owns [A1]) [A1] w → Gives P f vs' [A1] w V I A) (hx : ogets T xs.toList = some vs) (hv : vs = vs') :
    Ef P n w0 M T H ⟨dd, .call ⟨.value (.func f), xs, ts⟩, tt, pos, af, g⟩ (fun u H' => ∃ x, u = V x ∧ I x ∧ H' = A x ++ Hr) := by
  subst hv
  refine (E_call [A1] Hr V I A hx hf (fun w hS => hS.perm h1.perm) fun w hS => hc w hS (St.again (As := [A1]) hS)).mono ?_
  rintro v H' ⟨x, hI, rfl, rfl⟩ w hS
  exact ⟨_, _, rfl, ⟨x, rfl, hI, rfl⟩, hS⟩
theorem pt_apart {w0 w : World} {M : Nat → Prop} {B0 : Asn} {Hr : List Asn} {b t m : Nat} {cs : List Value} [hm : Hat Hr b t cs] (hS : St w0 M (B0 :: Hr) w) (hl : cs.length = m) : Rd w (fun k => ¬ owns [B0] k) 1 (some ⟨b, 0, none⟩) m cs :=
  ⟨by omega, fun _ => ⟨_, rfl, fun ⟨B, hB, ho⟩ => by
    rw [List.mem_singleton.1 hB] at ho
    exact (List.pairwise_cons.1 hS.apart).1 _ hm.mem _ ho rfl, fun j v hj => by rw [add_plain]; exact hS.cell (List.mem_cons_of_mem _ hm.mem) (by simpa using hj)⟩⟩
abbrev emd (m : Em) : Dt := m.2.2
abbrev Z0 : Ms := ⟨0, 0, 0, 0, (0, 0), [], 0, false, 0, [], []⟩
abbrev P0 : Mp := ⟨none, 0, 0, none, 0, 0, none, 0, 0, []⟩
/-- are these the bytes of a message that may be? -/
def DecP (l : List UInt8) (x : Ms) : Prop := ∃ f, l = f ++ sumL f ∧ MsOk x ∧ MsU x ∧ plainB x = f
/-- the places are those of the message -/
structure WfM (x : Ms) (p : Mp) : Prop where
  «1» : p.Q.length = p.n
  «2» : p.Q.map emv = x.es
  «3» : x.cf.length = p.cn
  «4» : x.dt.length = p.dn
theorem own_msr {w0 w : World} {M : Nat → Prop} {H : List Asn} {x : Ms} {p : Mp} (hS : St w0 M H w) (h1 : row 46 3 p.A p.n p.c (cellsL emc p.Q) ∈ H) (h2 : dtB 5 (p.Q.map emd) ∈ H) (h3 : row 3 1 p.cA p.cn p.cc (x.cf.map zv) ∈ H) (h4 : row 5 1 p.dA p.dn p.dc (x.dt.map bv) ∈ H) (hwf : WfM x p) : MsR w x p := by
  have f1 := row_facts (hS.at_ h1)
  have f3 := row_facts (hS.at_ h3)
  exact ⟨hwf.1, Nat.le_trans f1.1 f1.2.1, hwf.2, (Rd.of_own (hS.at_ h1)).more fun _ _ => trivial, fun m hm => dtB_bs hS h2 (emd m) (List.mem_map.2 ⟨m, hm, rfl⟩), hwf.3, Nat.le_trans f3.1 f3.2.1, (Rd.of_own (hS.at_ h3)).more fun _ _ => trivial, row_bs hS h4 hwf.4⟩
theorem decP_f {f e : List UInt8} {x : Ms} (he : e.length = 32) (h : DecP (f ++ e) x) : e = sumL f ∧ MsOk x ∧ MsU x ∧ plainB x = f := by
  obtain ⟨g, h1, h2, h3, h4⟩ := h
  obtain ⟨h5, h6⟩ := List.append_inj' h1 (by rw [he, sumL_len])
  subst h5
  exact ⟨h6, h2, h3, h4⟩
theorem decP_len {l : List UInt8} {x : Ms} (h : DecP l x) : 32 ≤ l.length := by
  obtain ⟨g, h1, _⟩ := h
  rw [h1, List.length_append, sumL_len]
  omega
theorem mg_built0 : Tryd.prog.built 31 [] = some (mgc Z0 P0).toArray := by kernel_rfl
theorem mg_built4 (a b c : Int) (t : Nat) : Tryd.prog.built 31 [(0, .int .i64 a), (1, .int .i64 b), (2, .int .i64 c), (3, .int .u64 (t : Int))] = some (mgc ⟨a, b, c, t, (0, 0), [], 0, false, 0, [], []⟩ P0).toArray := by kernel_rfl
theorem rd_zero : ti63.zero = .agg [Value.pointer none].toArray := by kernel_rfl
theorem T_eqE {P : Program} {n : Nat} {w0 : World} {M : Nat → Prop} {T : Slots} {H : List Asn} {dd : Option Tmp} {tt : TypeId} {pos : String} {af : Array Edge} {g : Option (Nat × Bool)} {x y : Operand} {t u : TypeId} {kk : IntKind} {i j : Int} {r : Bool} (h : decide (i = j) = r) (hx : oget T x = some (.int kk i)) (hy : oget T y = some (.int kk j)) :
    Tk P n w0 M T H ⟨dd, .binOp .eql t x y u, tt, pos, af, g⟩ (.bool r) := h ▸ T_eq hx hy
set_option maxRecDepth 100000 in
set_option maxHeartbeats 4000000 in
theorem decode_any (w : World) (hrt : Roots w) (A : Option Addr) (n c : Nat) (b : List UInt8) (hb : Bs w All A n c b) (hn : n ≤ 99000) :
    Gives Tryd.prog 17 [.slice A n c] [] w (X := Ms × Mp × Int) (fun y => .tuple #[.agg (mgc y.1 y.2.1).toArray, .int .i64 y.2.2]) (fun y => WfM y.1 y.2.1 ∧ ((y.2.2 = 0 ∧ DecP b y.1 ∧ ∀ x, DecP b x → y.1 = x) ∨ (y.2.2 = (if n < 32 then 7 else 231) ∧ y.1 = Z0 ∧ y.2.1 = P0 ∧ ∀ x, ¬ DecP b x))) (fun y => [row 46 3 y.2.1.A y.2.1.n y.2.1.c (cellsL emc y.2.1.Q), dtB 5 (y.2.1.Q.map emd), row 3 1 y.2.1.cA y.2.1.cn y.2.1.cc (y.1.cf.map zv), row 5 1 y.2.1.dA y.2.1.dn y.2.1.dc (y.1.dt.map bv)]) := by
  refine gives_C Tryd.func17 rfl Tryd.ntmps17 Tryd.results17 (by simp) (St.enter w) (fun B hB => ?_)
  have hbl := hb.len
  have hcap := hb.cap
  rcases Nat.lt_or_ge n 32 with h32 | h32
  · rw [if_pos h32] at hB
    focus (refine S_seq rfl ?_; refine S_region rfl rfl ?_; (refine R_eff (E_alloca rfl mg_zero) ?_ rfl rfl; rintro _ _ ⟨b2, rfl, rfl⟩); refine R_p rfl ?_ rfl rfl; refine R_nil ?_; refine S_seq rfl ?_; refine S_seq rfl (S_region rfl rfl ?_); (iterate 2 refine R_p rfl ?_ rfl rfl); refine R_take (T_decT rfl (by omega)) ?_ rfl rfl; refine R_nil ?_; refine S_true rfl rfl ?_; refine S_seq rfl (S_region rfl rfl ?_); refine R_take (T_build0 mg_built0) ?_ rfl rfl; (refine R_eff0 (E_storew (cs := mgc Z0 P0) (ds := mgc Z0 P0) rfl rfl rfl rfl (mgc_one _ _) rfl) ?_ rfl; rintro _ _ rfl); refine R_p rfl ?_ rfl rfl; refine R_nil ?_)
    exact hB _ _ _ _ _ rfl (.cell rfl rfl rfl inferInstance rfl (.tmp rfl .nil)) fun w' hS => ⟨(Z0, P0, 7), rfl, ⟨⟨rfl, rfl, rfl, rfl⟩, .inr ⟨rfl, rfl, rfl, fun x hx => by have := decP_len hx; omega⟩⟩, sub_st (H' := [row 46 3 none 0 0 [], dtB 5 [], row 3 1 none 0 0 [], row 5 1 none 0 0 []]) w' (dtB_nil (e := 5) (((hS.nilrow 46 3).nilrow 3 1).nilrow 5 1))⟩
  obtain ⟨N, rfl⟩ : ∃ N, n = N + 32 := ⟨n - 32, by omega⟩
  rw [if_neg (by omega)] at hB
  obtain ⟨f, hf⟩ : ∃ f, b.take N = f := ⟨_, rfl⟩
  obtain ⟨e, he⟩ : ∃ e, b.drop N = e := ⟨_, rfl⟩
  have hbf : b = f ++ e := by rw [← hf, ← he, List.take_append_drop]
  have hfl : f.length = N := by rw [← hf, List.length_take]; omega
  have hel : e.length = 32 := by rw [← he, List.length_drop]; omega
  have hbF : Bs w All A N c f := hf ▸ hb.head (by omega)
  have hbE : Bs w All (cutP A c N 1) (N + 32 - N) (c - N) e := he ▸ hb.cutP (by omega)
  rw [hbf] at hB
  obtain ⟨r, hr⟩ : ∃ r, decide (sumL f = e) = r := ⟨_, rfl⟩
  cases r
  · focus (refine S_seq rfl ?_; refine S_region rfl rfl ?_; (refine R_eff (E_alloca rfl mg_zero) ?_ rfl rfl; rintro _ _ ⟨b2, rfl, rfl⟩); refine R_p rfl ?_ rfl rfl; refine R_nil ?_; refine S_seq rfl ?_; refine S_seq rfl (S_region rfl rfl ?_); (iterate 2 refine R_p rfl ?_ rfl rfl); refine R_take (T_decF rfl (by omega)) ?_ rfl rfl; refine R_nil ?_; refine S_false rfl rfl ?_; refine S_skip rfl ?_; refine S_seq rfl ?_; (refine S_draw _ (fun _ h => h) (by kernel_rfl) rfl (by kernel_rfl) (rfl : _ = 12) ?_; (refine D_take 0 rfl (pev_ok rfl) ?_ rfl rfl (by kernel_rfl) (by kernel_rfl)); (refine D_take 1 rfl (pev_ok rfl) ?_ rfl rfl (by kernel_rfl) (by kernel_rfl)); (refine D_take 2 rfl (pev_ok rfl) ?_ rfl rfl (by kernel_rfl) (by kernel_rfl)); ((refine D_take 3 rfl (T_subE (p := N + 32) (q := 32) (r := N) (by omega) rfl rfl (by omega) (by unfold fits; omega)) ?_ rfl rfl (by kernel_rfl) (by kernel_rfl))); (refine D_take 4 rfl (T_slhN (q := N) rfl rfl rfl rfl rfl (by omega)) ?_ rfl rfl (by kernel_rfl) (by kernel_rfl)); (refine D_take 5 rfl (pev_ok rfl) ?_ rfl rfl (by kernel_rfl) (by kernel_rfl)); (refine D_take 6 rfl (pev_ok rfl) ?_ rfl rfl (by kernel_rfl) (by kernel_rfl)); (refine D_take 7 rfl (pev_ok rfl) ?_ rfl rfl (by kernel_rfl) (by kernel_rfl)); ((refine D_take 8 rfl (T_subE (p := N + 32) (q := 32) (r := N) (by omega) rfl rfl (by omega) (by unfold fits; omega)) ?_ rfl rfl (by kernel_rfl) (by kernel_rfl))); (refine D_take 9 rfl (T_slN (sz := 1) (q := N) rfl rfl rfl rfl rfl rfl (by omega) (by omega)) ?_ rfl rfl (by kernel_rfl) (by kernel_rfl)); (refine D_take 10 rfl (pev_ok rfl) ?_ rfl rfl (by kernel_rfl) (by kernel_rfl)); (refine D_take 11 rfl (pev_ok rfl) ?_ rfl rfl (by kernel_rfl) (by kernel_rfl)); refine D_done ?_ (by kernel_rfl)); refine S_seq rfl ?_; refine S_seq rfl (S_region rfl rfl ?_); refine R_p rfl ?_ rfl rfl; (refine R_eff (E_hv0 (f := 23) ⟨_, Tryd.func23, rfl, by kernel_rfl⟩ (fun w hS => sum_any w A N c f All (hbF.keep hS.kpO) (by omega) (hrt.kp hS.kp (noOwns 0))) rfl rfl (fun _ => rfl)) ?_ rfl rfl; rintro _ _ ⟨_, rfl, _, rfl⟩); (refine R_eff (E_alloca rfl noId_alloc) ?_ rfl rfl; rintro _ _ ⟨b5, rfl, rfl⟩); (refine R_eff0 (E_storew (cs := noId.map bv) (ds := (sumL f).map bv) rfl rfl rfl (by rw [List.length_map, sumL_len]; rfl) (bv_ones _) (by rw [List.length_map, List.length_map, sumL_len]; rfl)) ?_ rfl; rintro _ _ rfl); refine R_nil (S_seq rfl (S_region rfl rfl ?_)); refine R_take (T_slarr rfl rfl rfl rfl) ?_ rfl rfl; refine R_p rfl ?_ rfl rfl; (refine R_eff (E_hv0 (f := 21) ⟨_, Tryd.func21, rfl, by kernel_rfl⟩ (fun w hS => oeq_k w (some ⟨b5, 0, none⟩) (cutP A c N 1) 32 32 (N + 32 - N) (c - N) (sumL f) e ((Src.pt (g := b5) (l := sumL f) (sumL_len f) (by decide) (by decide) (fun j u hj => by rw [Nat.zero_add]; exact hj)).bs w hS) (hbE.keep hS.kpO) _ hr) rfl rfl (fun _ => rfl)) ?_ rfl rfl; rintro _ _ ⟨_, rfl, _, rfl⟩); refine R_take (T_not rfl) ?_ rfl rfl; refine R_nil ?_; refine S_true rfl rfl ?_; refine S_seq rfl (S_region rfl rfl ?_); refine R_take (T_build0 mg_built0) ?_ rfl rfl; (refine R_eff0 (E_storew (cs := mgc Z0 P0) (ds := mgc Z0 P0) rfl rfl rfl rfl (mgc_one _ _) rfl) ?_ rfl; rintro _ _ rfl); refine R_p rfl ?_ rfl rfl; refine R_nil ?_)
    exact hB _ _ _ _ _ rfl (.cell rfl rfl rfl inferInstance rfl (.tmp rfl .nil)) fun w' hS => ⟨(Z0, P0, 231), rfl, ⟨⟨rfl, rfl, rfl, rfl⟩, .inr ⟨rfl, rfl, rfl, fun x hx => of_decide_eq_false hr (decP_f hel hx).1.symm⟩⟩, sub_st (H' := [row 46 3 none 0 0 [], dtB 5 [], row 3 1 none 0 0 [], row 5 1 none 0 0 []]) w' (dtB_nil (e := 5) (((hS.nilrow 46 3).nilrow 3 1).nilrow 5 1))⟩
  have hse : e = sumL f := (of_decide_eq_true hr).symm
  focus (refine S_seq rfl ?_; refine S_region rfl rfl ?_; (refine R_eff (E_alloca rfl mg_zero) ?_ rfl rfl; rintro _ _ ⟨b2, rfl, rfl⟩); refine R_p rfl ?_ rfl rfl; refine R_nil ?_; refine S_seq rfl ?_; refine S_seq rfl (S_region rfl rfl ?_); (iterate 2 refine R_p rfl ?_ rfl rfl); refine R_take (T_decF rfl (by omega)) ?_ rfl rfl; refine R_nil ?_; refine S_false rfl rfl ?_; refine S_skip rfl ?_; refine S_seq rfl ?_; (refine S_draw _ (fun _ h => h) (by kernel_rfl) rfl (by kernel_rfl) (rfl : _ = 12) ?_; (refine D_take 0 rfl (pev_ok rfl) ?_ rfl rfl (by kernel_rfl) (by kernel_rfl)); (refine D_take 1 rfl (pev_ok rfl) ?_ rfl rfl (by kernel_rfl) (by kernel_rfl)); (refine D_take 2 rfl (pev_ok rfl) ?_ rfl rfl (by kernel_rfl) (by kernel_rfl)); ((refine D_take 3 rfl (T_subE (p := N + 32) (q := 32) (r := N) (by omega) rfl rfl (by omega) (by unfold fits; omega)) ?_ rfl rfl (by kernel_rfl) (by kernel_rfl))); (refine D_take 4 rfl (T_slhN (q := N) rfl rfl rfl rfl rfl (by omega)) ?_ rfl rfl (by kernel_rfl) (by kernel_rfl)); (refine D_take 5 rfl (pev_ok rfl) ?_ rfl rfl (by kernel_rfl) (by kernel_rfl)); (refine D_take 6 rfl (pev_ok rfl) ?_ rfl rfl (by kernel_rfl) (by kernel_rfl)); (refine D_take 7 rfl (pev_ok rfl) ?_ rfl rfl (by kernel_rfl) (by kernel_rfl)); ((refine D_take 8 rfl (T_subE (p := N + 32) (q := 32) (r := N) (by omega) rfl rfl (by omega) (by unfold fits; omega)) ?_ rfl rfl (by kernel_rfl) (by kernel_rfl))); (refine D_take 9 rfl (T_slN (sz := 1) (q := N) rfl rfl rfl rfl rfl rfl (by omega) (by omega)) ?_ rfl rfl (by kernel_rfl) (by kernel_rfl)); (refine D_take 10 rfl (pev_ok rfl) ?_ rfl rfl (by kernel_rfl) (by kernel_rfl)); (refine D_take 11 rfl (pev_ok rfl) ?_ rfl rfl (by kernel_rfl) (by kernel_rfl)); refine D_done ?_ (by kernel_rfl)); refine S_seq rfl ?_; refine S_seq rfl (S_region rfl rfl ?_); refine R_p rfl ?_ rfl rfl; (refine R_eff (E_hv0 (f := 23) ⟨_, Tryd.func23, rfl, by kernel_rfl⟩ (fun w hS => sum_any w A N c f All (hbF.keep hS.kpO) (by omega) (hrt.kp hS.kp (noOwns 0))) rfl rfl (fun _ => rfl)) ?_ rfl rfl; rintro _ _ ⟨_, rfl, _, rfl⟩); (refine R_eff (E_alloca rfl noId_alloc) ?_ rfl rfl; rintro _ _ ⟨b5, rfl, rfl⟩); (refine R_eff0 (E_storew (cs := noId.map bv) (ds := (sumL f).map bv) rfl rfl rfl (by rw [List.length_map, sumL_len]; rfl) (bv_ones _) (by rw [List.length_map, List.length_map, sumL_len]; rfl)) ?_ rfl; rintro _ _ rfl); refine R_nil (S_seq rfl (S_region rfl rfl ?_)); refine R_take (T_slarr rfl rfl rfl rfl) ?_ rfl rfl; refine R_p rfl ?_ rfl rfl; (refine R_eff (E_hv0 (f := 21) ⟨_, Tryd.func21, rfl, by kernel_rfl⟩ (fun w hS => oeq_k w (some ⟨b5, 0, none⟩) (cutP A c N 1) 32 32 (N + 32 - N) (c - N) (sumL f) e ((Src.pt (g := b5) (l := sumL f) (sumL_len f) (by decide) (by decide) (fun j u hj => by rw [Nat.zero_add]; exact hj)).bs w hS) (hbE.keep hS.kpO) _ hr) rfl rfl (fun _ => rfl)) ?_ rfl rfl; rintro _ _ ⟨_, rfl, _, rfl⟩); refine R_take (T_not rfl) ?_ rfl rfl; refine R_nil ?_; refine S_false rfl rfl ?_; refine S_skip rfl ?_; refine S_seq rfl (S_region rfl rfl ?_); refine R_p rfl ?_ rfl rfl; (refine R_eff (E_read (A := A) (m := N) (c := c) (l := f) rfl (Src.old hbF (fun k _ => noOwns k)) (by omega)) ?_ rfl rfl; rintro _ _ ⟨gb, F, rfl, rfl⟩); refine R_take (T_build1 rfl (rdr_built gb)) ?_ rfl rfl; (refine R_eff (E_alloca rfl rd_zero) ?_ rfl rfl; rintro _ _ ⟨b6, rfl, rfl⟩); (refine R_eff0 (E_storew (cs := [.pointer none]) (ds := [.pointer (some ⟨gb, 0, none⟩)]) rfl rfl rfl rfl (by simp [Value.oneCell']) rfl) ?_ rfl; rintro _ _ rfl); refine R_nil ?_; refine S_seq rfl ?_)
  refine S_cut (X := (Nat × Nat × Nat × Nat) × Nat × List UInt8 × Int) (fun y => [(0, .slice A N c), (2, .pointer (some ⟨b2, 0, none⟩)), (6, .pointer (some ⟨b6, 0, none⟩)), (7, .pointer (some ⟨y.2.1, 0, none⟩))]) (fun y => [pt b2 31 (mgc Z0 P0), pt b6 63 [.pointer (some ⟨gb, 0, none⟩)], pt y.2.1 31 (mgc ⟨(y.1.1 : Int), (y.1.2.1 : Int), (y.1.2.2.1 : Int), y.1.2.2.2, (0, 0), [], 0, false, 0, [], []⟩ P0), rdr gb F y.2.2.1 y.2.2.2]) (fun y => Ag f tr0 r0 ⟨(y.1.1 : Int), (y.1.2.1 : Int), (y.1.2.2.1 : Int), y.1.2.2.2, (0, 0), [], 0, false, 0, [], []⟩ y.2.2.1 y.2.2.2 ∧ y.1.2.2.2 < 18446744073709551616 ∧ y.2.2.1.length ≤ N) (fun J hJ => ?_) (fun y hy => ?_)
  · skip
    refine S_draw ([pt b6 63 [.pointer (some ⟨gb, 0, none⟩)]]) sub_st (by kernel_rfl) rfl (by kernel_rfl) (by kernel_rfl : _ = 18) ?_
    refine D_take 0 rfl (pev_ok rfl) ?_ rfl rfl (by kernel_rfl) (by kernel_rfl)
    refine D_take 1 rfl (T_load rfl rfl rfl rfl) ?_ rfl rfl (by kernel_rfl) (by kernel_rfl)
    refine D_take 4 rfl (pev_ok rfl) ?_ rfl rfl (by kernel_rfl) (by kernel_rfl)
    refine D_take 5 rfl (T_load rfl rfl rfl rfl) ?_ rfl rfl (by kernel_rfl) (by kernel_rfl)
    refine D_take 8 rfl (pev_ok rfl) ?_ rfl rfl (by kernel_rfl) (by kernel_rfl)
    refine D_take 9 rfl (T_load rfl rfl rfl rfl) ?_ rfl rfl (by kernel_rfl) (by kernel_rfl)
    refine D_take 12 rfl (pev_ok rfl) ?_ rfl rfl (by kernel_rfl) (by kernel_rfl)
    refine D_take 13 rfl (T_load rfl rfl rfl rfl) ?_ rfl rfl (by kernel_rfl) (by kernel_rfl)
    refine D_two 2 16 (by decide) rfl rfl (E_u8 (gb := gb) (F := F) (l := f) (why := 0) rfl) (E_alloca rfl mg_zero) ?_ ?_ rfl rfl rfl rfl (by kernel_rfl)
    · rintro _ _ ⟨t1, l1, w1, hs1, hn1, rfl, rfl⟩
      refine Nx_same sub_st ?_
      (refine D_take 3 rfl (T_convf rfl rfl rfl rfl (by unfold fits; omega)) ?_ rfl rfl (by kernel_rfl) (by kernel_rfl))
      refine D_two 6 16 (by decide) rfl rfl (E_u8 (gb := gb) (F := F) (l := l1) (why := w1) rfl) (E_alloca rfl mg_zero) ?_ ?_ rfl rfl rfl rfl (by kernel_rfl)
      · rintro _ _ ⟨t2, l2, w2, hs2, hn2, rfl, rfl⟩
        refine Nx_same sub_st ?_
        (refine D_take 7 rfl (T_convf rfl rfl rfl rfl (by unfold fits; omega)) ?_ rfl rfl (by kernel_rfl) (by kernel_rfl))
        refine D_two 10 16 (by decide) rfl rfl (E_u8 (gb := gb) (F := F) (l := l2) (why := w2) rfl) (E_alloca rfl mg_zero) ?_ ?_ rfl rfl rfl rfl (by kernel_rfl)
        · rintro _ _ ⟨t3, l3, w3, hs3, hn3, rfl, rfl⟩
          refine Nx_same sub_st ?_
          (refine D_take 11 rfl (T_convf rfl rfl rfl rfl (by unfold fits; omega)) ?_ rfl rfl (by kernel_rfl) (by kernel_rfl))
          refine D_two 14 16 (by decide) rfl rfl (E_u64 (gb := gb) (F := F) (l := l3) (why := w3) rfl) (E_alloca rfl mg_zero) ?_ ?_ rfl rfl rfl rfl (by kernel_rfl)
          · rintro _ _ ⟨t4, l4, w4, hs4, hn4, rfl, rfl⟩
            refine Nx_same sub_st ?_
            refine D_take 15 rfl (T_build4 rfl rfl rfl rfl (mg_built4 _ _ _ _)) ?_ rfl rfl (by kernel_rfl) (by kernel_rfl)
            refine D_one 16 rfl (E_alloca rfl mg_zero) ?_ rfl rfl (by kernel_rfl)
            rintro _ _ ⟨b7, rfl, rfl⟩
            refine Nx_same sub_st ?_
            refine D_one 17 rfl (E_storew (gb := b7) (cs := mgc Z0 P0) (ds := mgc ⟨(num t1 : Nat), (num t2 : Nat), (num t3 : Nat), num t4, (0, 0), [], 0, false, 0, [], []⟩ P0) rfl rfl rfl rfl (mgc_one _ _) rfl) ?_ rfl rfl (by kernel_rfl)
            rintro _ _ rfl
            refine Nx_pivot (by kernel_rfl) ?_
            refine D_done ?_ (by kernel_rfl)
            exact hJ ((num t1, num t2, num t3, num t4), b7, l4, w4) _ _ ⟨ag_head hs1 hs2 hs3 hs4, hn4, Nat.le_trans hs4.len (Nat.le_trans hs3.len (Nat.le_trans hs2.len (Nat.le_trans hs1.len (by omega))))⟩ (Sub.cons rfl (Sub.cons rfl (Sub.cons rfl (Sub.cons rfl Sub.nil)))) sub_st
          · rintro _ _ ⟨b7, rfl, rfl⟩
            refine Nx_same sub_st ?_
            refine D_one 14 rfl (E_u64 (gb := gb) (F := F) (l := l3) (why := w3) rfl) ?_ rfl rfl (by kernel_rfl)
            rintro _ _ ⟨t4, l4, w4, hs4, hn4, rfl, rfl⟩
            refine Nx_same sub_st ?_
            refine D_take 15 rfl (T_build4 rfl rfl rfl rfl (mg_built4 _ _ _ _)) ?_ rfl rfl (by kernel_rfl) (by kernel_rfl)
            refine D_one 17 rfl (E_storew (gb := b7) (cs := mgc Z0 P0) (ds := mgc ⟨(num t1 : Nat), (num t2 : Nat), (num t3 : Nat), num t4, (0, 0), [], 0, false, 0, [], []⟩ P0) rfl rfl rfl rfl (mgc_one _ _) rfl) ?_ rfl rfl (by kernel_rfl)
            rintro _ _ rfl
            refine Nx_pivot (by kernel_rfl) ?_
            refine D_done ?_ (by kernel_rfl)
            exact hJ ((num t1, num t2, num t3, num t4), b7, l4, w4) _ _ ⟨ag_head hs1 hs2 hs3 hs4, hn4, Nat.le_trans hs4.len (Nat.le_trans hs3.len (Nat.le_trans hs2.len (Nat.le_trans hs1.len (by omega))))⟩ (Sub.cons rfl (Sub.cons rfl (Sub.cons rfl (Sub.cons rfl Sub.nil)))) sub_st
        · rintro _ _ ⟨b7, rfl, rfl⟩
          refine Nx_same sub_st ?_
          refine D_one 10 rfl (E_u8 (gb := gb) (F := F) (l := l2) (why := w2) rfl) ?_ rfl rfl (by kernel_rfl)
          rintro _ _ ⟨t3, l3, w3, hs3, hn3, rfl, rfl⟩
          refine Nx_same sub_st ?_
          (refine D_take 11 rfl (T_convf rfl rfl rfl rfl (by unfold fits; omega)) ?_ rfl rfl (by kernel_rfl) (by kernel_rfl))
          refine D_one 14 rfl (E_u64 (gb := gb) (F := F) (l := l3) (why := w3) rfl) ?_ rfl rfl (by kernel_rfl)
          rintro _ _ ⟨t4, l4, w4, hs4, hn4, rfl, rfl⟩
          refine Nx_same sub_st ?_
          refine D_take 15 rfl (T_build4 rfl rfl rfl rfl (mg_built4 _ _ _ _)) ?_ rfl rfl (by kernel_rfl) (by kernel_rfl)
          refine D_one 17 rfl (E_storew (gb := b7) (cs := mgc Z0 P0) (ds := mgc ⟨(num t1 : Nat), (num t2 : Nat), (num t3 : Nat), num t4, (0, 0), [], 0, false, 0, [], []⟩ P0) rfl rfl rfl rfl (mgc_one _ _) rfl) ?_ rfl rfl (by kernel_rfl)
          rintro _ _ rfl
          refine Nx_pivot (by kernel_rfl) ?_
          refine D_done ?_ (by kernel_rfl)
          exact hJ ((num t1, num t2, num t3, num t4), b7, l4, w4) _ _ ⟨ag_head hs1 hs2 hs3 hs4, hn4, Nat.le_trans hs4.len (Nat.le_trans hs3.len (Nat.le_trans hs2.len (Nat.le_trans hs1.len (by omega))))⟩ (Sub.cons rfl (Sub.cons rfl (Sub.cons rfl (Sub.cons rfl Sub.nil)))) sub_st
      · rintro _ _ ⟨b7, rfl, rfl⟩
        refine Nx_same sub_st ?_
        refine D_one 6 rfl (E_u8 (gb := gb) (F := F) (l := l1) (why := w1) rfl) ?_ rfl rfl (by kernel_rfl)
        rintro _ _ ⟨t2, l2, w2, hs2, hn2, rfl, rfl⟩
        refine Nx_same sub_st ?_
        (refine D_take 7 rfl (T_convf rfl rfl rfl rfl (by unfold fits; omega)) ?_ rfl rfl (by kernel_rfl) (by kernel_rfl))
        refine D_one 10 rfl (E_u8 (gb := gb) (F := F) (l := l2) (why := w2) rfl) ?_ rfl rfl (by kernel_rfl)
        rintro _ _ ⟨t3, l3, w3, hs3, hn3, rfl, rfl⟩
        refine Nx_same sub_st ?_
        (refine D_take 11 rfl (T_convf rfl rfl rfl rfl (by unfold fits; omega)) ?_ rfl rfl (by kernel_rfl) (by kernel_rfl))
        refine D_one 14 rfl (E_u64 (gb := gb) (F := F) (l := l3) (why := w3) rfl) ?_ rfl rfl (by kernel_rfl)
        rintro _ _ ⟨t4, l4, w4, hs4, hn4, rfl, rfl⟩
        refine Nx_same sub_st ?_
        refine D_take 15 rfl (T_build4 rfl rfl rfl rfl (mg_built4 _ _ _ _)) ?_ rfl rfl (by kernel_rfl) (by kernel_rfl)
        refine D_one 17 rfl (E_storew (gb := b7) (cs := mgc Z0 P0) (ds := mgc ⟨(num t1 : Nat), (num t2 : Nat), (num t3 : Nat), num t4, (0, 0), [], 0, false, 0, [], []⟩ P0) rfl rfl rfl rfl (mgc_one _ _) rfl) ?_ rfl rfl (by kernel_rfl)
        rintro _ _ rfl
        refine Nx_pivot (by kernel_rfl) ?_
        refine D_done ?_ (by kernel_rfl)
        exact hJ ((num t1, num t2, num t3, num t4), b7, l4, w4) _ _ ⟨ag_head hs1 hs2 hs3 hs4, hn4, Nat.le_trans hs4.len (Nat.le_trans hs3.len (Nat.le_trans hs2.len (Nat.le_trans hs1.len (by omega))))⟩ (Sub.cons rfl (Sub.cons rfl (Sub.cons rfl (Sub.cons rfl Sub.nil)))) sub_st
    · rintro _ _ ⟨b7, rfl, rfl⟩
      refine Nx_same sub_st ?_
      refine D_one 2 rfl (E_u8 (gb := gb) (F := F) (l := f) (why := 0) rfl) ?_ rfl rfl (by kernel_rfl)
      rintro _ _ ⟨t1, l1, w1, hs1, hn1, rfl, rfl⟩
      refine Nx_same sub_st ?_
      (refine D_take 3 rfl (T_convf rfl rfl rfl rfl (by unfold fits; omega)) ?_ rfl rfl (by kernel_rfl) (by kernel_rfl))
      refine D_one 6 rfl (E_u8 (gb := gb) (F := F) (l := l1) (why := w1) rfl) ?_ rfl rfl (by kernel_rfl)
      rintro _ _ ⟨t2, l2, w2, hs2, hn2, rfl, rfl⟩
      refine Nx_same sub_st ?_
      (refine D_take 7 rfl (T_convf rfl rfl rfl rfl (by unfold fits; omega)) ?_ rfl rfl (by kernel_rfl) (by kernel_rfl))
      refine D_one 10 rfl (E_u8 (gb := gb) (F := F) (l := l2) (why := w2) rfl) ?_ rfl rfl (by kernel_rfl)
      rintro _ _ ⟨t3, l3, w3, hs3, hn3, rfl, rfl⟩
      refine Nx_same sub_st ?_
      (refine D_take 11 rfl (T_convf rfl rfl rfl rfl (by unfold fits; omega)) ?_ rfl rfl (by kernel_rfl) (by kernel_rfl))
      refine D_one 14 rfl (E_u64 (gb := gb) (F := F) (l := l3) (why := w3) rfl) ?_ rfl rfl (by kernel_rfl)
      rintro _ _ ⟨t4, l4, w4, hs4, hn4, rfl, rfl⟩
      refine Nx_same sub_st ?_
      refine D_take 15 rfl (T_build4 rfl rfl rfl rfl (mg_built4 _ _ _ _)) ?_ rfl rfl (by kernel_rfl) (by kernel_rfl)
      refine D_one 17 rfl (E_storew (gb := b7) (cs := mgc Z0 P0) (ds := mgc ⟨(num t1 : Nat), (num t2 : Nat), (num t3 : Nat), num t4, (0, 0), [], 0, false, 0, [], []⟩ P0) rfl rfl rfl rfl (mgc_one _ _) rfl) ?_ rfl rfl (by kernel_rfl)
      rintro _ _ rfl
      refine Nx_pivot (by kernel_rfl) ?_
      refine D_done ?_ (by kernel_rfl)
      exact hJ ((num t1, num t2, num t3, num t4), b7, l4, w4) _ _ ⟨ag_head hs1 hs2 hs3 hs4, hn4, Nat.le_trans hs4.len (Nat.le_trans hs3.len (Nat.le_trans hs2.len (Nat.le_trans hs1.len (by omega))))⟩ (Sub.cons rfl (Sub.cons rfl (Sub.cons rfl (Sub.cons rfl Sub.nil)))) sub_st
  obtain ⟨⟨kk, ff, tt, tm⟩, b7, l, why⟩ := y
  obtain ⟨hag, htm, hll⟩ := hy
  dsimp only at hag htm hll ⊢
  refine RS_mem (fun w hS => (dtB_nil (e := 5) (((hS.nilrow 46 3).nilrow 3 1).nilrow 5 1))) ?_
  obtain ⟨K0, hK0⟩ : ∃ z : Int, (kk : Int) = z := ⟨_, rfl⟩
  rw [hK0] at hag ⊢
  refine S_seq rfl ?_
  refine S_cut (X := (Ms × Mp × List UInt8 × Int)) (fun y => [(0, .slice A N c), (2, .pointer (some ⟨b2, 0, none⟩)), (6, .pointer (some ⟨b6, 0, none⟩)), (7, .pointer (some ⟨b7, 0, none⟩)), (8, .int .i64 (fldN K0 : Int))]) (fun y => [pt b2 31 (mgc Z0 P0), pt b6 63 [.pointer (some ⟨gb, 0, none⟩)], pt b7 31 (mgc y.1 y.2.1), rdr gb F y.2.2.1 y.2.2.2, row 46 3 y.2.1.A y.2.1.n y.2.1.c (cellsL emc y.2.1.Q), dtB 5 (y.2.1.Q.map emd), row 3 1 y.2.1.cA y.2.1.cn y.2.1.cc (y.1.cf.map zv), row 5 1 y.2.1.dA y.2.1.dn y.2.1.dc (y.1.dt.map bv)]) (fun y => y.2.1 = P0 ∧ y.1.K = K0 ∧ Ag f tr0 r0 y.1 y.2.2.1 y.2.2.2 ∧ MsU y.1 ∧ WfM y.1 y.2.1 ∧ y.2.2.1.length ≤ N) (fun J hJ => ?_) (fun y hy => ?_)
  · skip
    focus (refine S_region rfl rfl ?_; refine R_p rfl ?_ rfl rfl; refine R_take (T_load rfl rfl rfl rfl) ?_ rfl rfl; (refine R_eff (E_hv0 (f := 24) ⟨_, Tryd.func24, rfl, by kernel_rfl⟩ (fun w hS => fields_any w K0) rfl rfl (fun _ => rfl)) ?_ rfl rfl; rintro _ _ ⟨_, rfl, _, rfl⟩); refine R_p rfl ?_ rfl rfl; refine R_nil ?_)
    exact hJ (⟨K0, ff, tt, tm, (0, 0), [], 0, false, 0, [], []⟩, P0, l, why) _ _ ⟨rfl, rfl, hag, ⟨htm, (by show 0 < 18446744073709551616; decide), (by show 0 < 18446744073709551616; decide), (by show 0 < 18446744073709551616; decide), (by show 0 < 18446744073709551616; decide), fun e he => absurd he (by simp)⟩, ⟨rfl, rfl, rfl, rfl⟩, hll⟩ (Sub.cons rfl (Sub.cons rfl (Sub.cons rfl (Sub.cons rfl (Sub.cons rfl Sub.nil))))) (fun w' hS => sub_st (H' := [pt b2 31 (mgc Z0 P0), pt b6 63 [.pointer (some ⟨gb, 0, none⟩)], pt b7 31 (mgc ⟨K0, ff, tt, tm, (0, 0), [], 0, false, 0, [], []⟩ P0), rdr gb F l why, row 46 3 none 0 0 [], dtB 5 [], row 3 1 none 0 0 [], row 5 1 none 0 0 []]) w' hS)
  clear hag htm hll why l hK0
  obtain ⟨m, p, l, why⟩ := y
  dsimp only at hy ⊢
  obtain ⟨hpx, hK, hag, hmu, hwf, hll⟩ := hy
  obtain ⟨rb, hrb⟩ : ∃ r, hasB K0 1 = r := ⟨_, rfl⟩
  focus (refine S_seq rfl ?_; refine S_seq rfl (S_region rfl rfl ?_); refine R_p rfl ?_ rfl rfl; (refine R_eff (E_hv0 (f := 39) ⟨_, Tryd.func39, rfl, by kernel_rfl⟩ (fun w hS => has_k w (fldN K0) 1 rb (fld_lt _) (by decide) hrb) rfl rfl (fun _ => rfl)) ?_ rfl rfl; rintro _ _ ⟨_, rfl, _, rfl⟩); refine R_nil ?_)
  refine S_cut (X := (Ms × Mp × List UInt8 × Int)) (fun y => [(0, .slice A N c), (2, .pointer (some ⟨b2, 0, none⟩)), (6, .pointer (some ⟨b6, 0, none⟩)), (7, .pointer (some ⟨b7, 0, none⟩)), (8, .int .i64 (fldN K0 : Int))]) (fun y => [pt b2 31 (mgc Z0 P0), pt b6 63 [.pointer (some ⟨gb, 0, none⟩)], pt b7 31 (mgc y.1 y.2.1), rdr gb F y.2.2.1 y.2.2.2, row 46 3 y.2.1.A y.2.1.n y.2.1.c (cellsL emc y.2.1.Q), dtB 5 (y.2.1.Q.map emd), row 3 1 y.2.1.cA y.2.1.cn y.2.1.cc (y.1.cf.map zv), row 5 1 y.2.1.dA y.2.1.dn y.2.1.dc (y.1.dt.map bv)]) (fun y => y.2.1 = P0 ∧ y.1.K = K0 ∧ Ag f tr1 r1 y.1 y.2.2.1 y.2.2.2 ∧ MsU y.1 ∧ WfM y.1 y.2.1 ∧ y.2.2.1.length ≤ N) (fun J hJ => ?_) (fun y hy => ?_)
  · cases rb
    · focus (refine S_false rfl rfl ?_; refine S_skip rfl ?_)
      exact hJ (m, p, l, why) _ _ ⟨hpx, hK, ag_pl0 hag (hK ▸ hrb), hmu, hwf, hll⟩ (Sub.cons rfl (Sub.cons rfl (Sub.cons rfl (Sub.cons rfl (Sub.cons rfl Sub.nil))))) sub_st
    · have hrb : hasB m.K 1 = true := hK ▸ hrb
      focus (refine S_true rfl rfl ?_; refine S_region rfl rfl ?_; refine R_take (T_loads (ds := [.pointer (some ⟨gb, 0, none⟩)]) rfl rfl rfl rfl rfl) ?_ rfl rfl; (refine R_eff (E_ht1 (f := 40) (A1 := rdr gb F l why) ⟨_, Tryd.func40, rfl, by kernel_rfl⟩ (fun w hS hS2 => place_any w gb F l why hS2) rfl rfl (fun _ => rfl)) ?_ rfl rfl; rintro _ _ ⟨⟨a, l2, w2⟩, rfl, ⟨t1, l1, w1, t2, hs1, hs2, ha, hn1, hn2⟩, rfl⟩); refine R_p rfl ?_ rfl rfl; (refine R_eff0 (E_storeA (gb := b7) (t := 31) (cs := mgc m p) (ds := atc a) (cs' := mgc ⟨m.K, m.F, m.T, m.tm, a, m.es, m.cm, m.ok, m.ix, m.cf, m.dt⟩ p) rfl rfl rfl rfl (atc_one _) rfl (by show 4 + 2 ≤ 12; omega)) ?_ rfl; rintro _ _ rfl); refine R_nil ?_)
      dsimp only at hs2 ha
      subst ha
      refine hJ (⟨m.K, m.F, m.T, m.tm, (num t1, num t2), m.es, m.cm, m.ok, m.ix, m.cf, m.dt⟩, p, l2, w2) _ _ ⟨hpx, hK, ag_pl hag hrb hs1 hs2, ⟨hmu.tm, hn1, hn2, hmu.cm, hmu.ix, hmu.es⟩, ⟨hwf.1, hwf.2, hwf.3, hwf.4⟩, Nat.le_trans hs2.len (Nat.le_trans hs1.len hll)⟩ (Sub.cons rfl (Sub.cons rfl (Sub.cons rfl (Sub.cons rfl (Sub.cons rfl Sub.nil))))) sub_st
  clear hpx hag hmu hwf hll hK hrb rb m p l why
  obtain ⟨m, p, l, why⟩ := y
  dsimp only at hy ⊢
  obtain ⟨hpx, hK, hag, hmu, hwf, hll⟩ := hy
  obtain ⟨rb, hrb⟩ : ∃ r, hasB K0 2 = r := ⟨_, rfl⟩
  focus (refine S_seq rfl ?_; refine S_seq rfl (S_region rfl rfl ?_); refine R_p rfl ?_ rfl rfl; (refine R_eff (E_hv0 (f := 39) ⟨_, Tryd.func39, rfl, by kernel_rfl⟩ (fun w hS => has_k w (fldN K0) 2 rb (fld_lt _) (by decide) hrb) rfl rfl (fun _ => rfl)) ?_ rfl rfl; rintro _ _ ⟨_, rfl, _, rfl⟩); refine R_nil ?_)
  refine S_cut (X := (Ms × Mp × List UInt8 × Int)) (fun y => [(0, .slice A N c), (2, .pointer (some ⟨b2, 0, none⟩)), (6, .pointer (some ⟨b6, 0, none⟩)), (7, .pointer (some ⟨b7, 0, none⟩)), (8, .int .i64 (fldN K0 : Int))]) (fun y => [pt b2 31 (mgc Z0 P0), pt b6 63 [.pointer (some ⟨gb, 0, none⟩)], pt b7 31 (mgc y.1 y.2.1), rdr gb F y.2.2.1 y.2.2.2, row 46 3 y.2.1.A y.2.1.n y.2.1.c (cellsL emc y.2.1.Q), dtB 5 (y.2.1.Q.map emd), row 3 1 y.2.1.cA y.2.1.cn y.2.1.cc (y.1.cf.map zv), row 5 1 y.2.1.dA y.2.1.dn y.2.1.dc (y.1.dt.map bv)]) (fun y => y.2.1 = P0 ∧ y.1.K = K0 ∧ Ag f tr2 r2 y.1 y.2.2.1 y.2.2.2 ∧ MsU y.1 ∧ WfM y.1 y.2.1 ∧ y.2.2.1.length ≤ N) (fun J hJ => ?_) (fun y hy => ?_)
  · cases rb
    · focus (refine S_false rfl rfl ?_; refine S_skip rfl ?_)
      exact hJ (m, p, l, why) _ _ ⟨hpx, hK, ag_ok0 hag (hK ▸ hrb), hmu, hwf, hll⟩ (Sub.cons rfl (Sub.cons rfl (Sub.cons rfl (Sub.cons rfl (Sub.cons rfl Sub.nil))))) sub_st
    · have hrb : hasB m.K 2 = true := hK ▸ hrb
      focus (refine S_true rfl rfl ?_; refine S_region rfl rfl ?_; refine R_p rfl ?_ rfl rfl; refine R_take (T_load rfl rfl rfl rfl) ?_ rfl rfl; (refine R_eff (E_u8 (gb := gb) (F := F) (l := l) (why := why) rfl) ?_ rfl rfl; rintro _ _ ⟨t1, l1, w1, hs1, hn1, rfl, rfl⟩); refine R_take (T_eqE (r := decide (num t1 = 1)) (decide_eq_decide.2 (by omega)) rfl rfl) ?_ rfl rfl; refine R_p rfl ?_ rfl rfl; (refine R_eff0 (E_storeA1 (gb := b7) (t := 31) (cs := mgc m p) (v := .bool (decide (num t1 = 1))) (cs' := mgc ⟨m.K, m.F, m.T, m.tm, m.pl, m.es, m.cm, decide (num t1 = 1), m.ix, m.cf, m.dt⟩ p) rfl rfl rfl rfl rfl rfl (by show 8 < 12; omega)) ?_ rfl; rintro _ _ rfl); refine R_nil ?_)
      refine hJ (⟨m.K, m.F, m.T, m.tm, m.pl, m.es, m.cm, decide (num t1 = 1), m.ix, m.cf, m.dt⟩, p, l1, w1) _ _ ⟨hpx, hK, ag_ok hag hrb hs1, ⟨hmu.tm, hmu.p1, hmu.p2, hmu.cm, hmu.ix, hmu.es⟩, ⟨hwf.1, hwf.2, hwf.3, hwf.4⟩, Nat.le_trans hs1.len hll⟩ (Sub.cons rfl (Sub.cons rfl (Sub.cons rfl (Sub.cons rfl (Sub.cons rfl Sub.nil))))) sub_st
  clear hpx hag hmu hwf hll hK hrb rb m p l why
  obtain ⟨m, p, l, why⟩ := y
  dsimp only at hy ⊢
  obtain ⟨hpx, hK, hag, hmu, hwf, hll⟩ := hy
  obtain ⟨rb, hrb⟩ : ∃ r, hasB K0 4 = r := ⟨_, rfl⟩
  focus (refine S_seq rfl ?_; refine S_region rfl rfl ?_; refine R_take (T_func (xs := []) (ys := [.pointer (some ⟨b6, 0, none⟩)]) rfl rfl) ?_ rfl rfl; refine R_p rfl ?_ rfl rfl; refine R_nil ?_; refine S_seq rfl ?_; refine S_seq rfl (S_region rfl rfl ?_); refine R_p rfl ?_ rfl rfl; (refine R_eff (E_hv0 (f := 39) ⟨_, Tryd.func39, rfl, by kernel_rfl⟩ (fun w hS => has_k w (fldN K0) 4 rb (fld_lt _) (by decide) hrb) rfl rfl (fun _ => rfl)) ?_ rfl rfl; rintro _ _ ⟨_, rfl, _, rfl⟩); refine R_nil ?_)
  refine S_cut (X := (Ms × Mp × List UInt8 × Int)) (fun y => [(0, .slice A N c), (2, .pointer (some ⟨b2, 0, none⟩)), (6, .pointer (some ⟨b6, 0, none⟩)), (7, .pointer (some ⟨b7, 0, none⟩)), (8, .int .i64 (fldN K0 : Int))]) (fun y => [pt b2 31 (mgc Z0 P0), pt b6 63 [.pointer (some ⟨gb, 0, none⟩)], pt b7 31 (mgc y.1 y.2.1), rdr gb F y.2.2.1 y.2.2.2, row 46 3 y.2.1.A y.2.1.n y.2.1.c (cellsL emc y.2.1.Q), dtB 5 (y.2.1.Q.map emd), row 3 1 y.2.1.cA y.2.1.cn y.2.1.cc (y.1.cf.map zv), row 5 1 y.2.1.dA y.2.1.dn y.2.1.dc (y.1.dt.map bv)]) (fun y => y.2.1 = ⟨y.2.1.A, y.2.1.n, y.2.1.c, none, 0, 0, none, 0, 0, y.2.1.Q⟩ ∧ y.1.K = K0 ∧ Ag f tr3 r3 y.1 y.2.2.1 y.2.2.2 ∧ MsU y.1 ∧ WfM y.1 y.2.1 ∧ y.2.2.1.length ≤ N) (fun J hJ => ?_) (fun y hy => ?_)
  · cases rb
    · focus (refine S_false rfl rfl ?_; refine S_skip rfl ?_)
      exact hJ (m, p, l, why) _ _ ⟨(by rw [hpx]), hK, ag_es0 hag (hK ▸ hrb), hmu, hwf, hll⟩ (Sub.cons rfl (Sub.cons rfl (Sub.cons rfl (Sub.cons rfl (Sub.cons rfl Sub.nil))))) sub_st
    · have hrb : hasB m.K 4 = true := hK ▸ hrb
      subst hpx
      have hc0 : m.cf = [] := List.eq_nil_of_length_eq_zero hwf.3
      have hd0 : m.dt = [] := List.eq_nil_of_length_eq_zero hwf.4
      focus (refine S_true rfl rfl ?_; refine S_seq rfl (S_region rfl rfl ?_); refine R_p rfl ?_ rfl rfl; refine R_take (T_load rfl rfl rfl rfl) ?_ rfl rfl; (refine R_eff (E_u8 (gb := gb) (F := F) (l := l) (why := why) rfl) ?_ rfl rfl; rintro _ _ ⟨t1, l1, w1, hs1, hn1, rfl, rfl⟩); refine R_take (T_convf rfl rfl rfl rfl (by unfold fits; omega)) ?_ rfl rfl; refine R_p rfl ?_ rfl rfl; refine R_nil ?_; refine S_block rfl ?_)
      refine S_loop (X := Nat × (Option Addr × Nat) × List Em × List UInt8 × Int) (fun y => [(0, .slice A N c), (2, .pointer (some ⟨b2, 0, none⟩)), (6, .pointer (some ⟨b6, 0, none⟩)), (7, .pointer (some ⟨b7, 0, none⟩)), (8, .int .i64 (fldN K0 : Int)), (9, .func (.func 41) #[] #[.pointer (some ⟨b6, 0, none⟩)]), (71, .int .i64 (num t1 : Nat)), (72, .int .i64 (y.1 : Int))]) (fun y => [pt b2 31 (mgc Z0 P0), pt b6 63 [.pointer (some ⟨gb, 0, none⟩)], pt b7 31 (mgc ⟨m.K, m.F, m.T, m.tm, m.pl, y.2.2.1.map emv, m.cm, m.ok, m.ix, m.cf, m.dt⟩ ⟨y.2.1.1, y.1, y.2.1.2, none, 0, 0, none, 0, 0, y.2.2.1⟩), rdr gb F y.2.2.2.1 y.2.2.2.2, row 46 3 y.2.1.1 y.1 y.2.1.2 (cellsL emc y.2.2.1), dtB 5 (y.2.2.1.map emd), row 3 1 none 0 0 (m.cf.map zv), row 5 1 none 0 0 (m.dt.map bv)]) (fun y => y.1 ≤ num t1 ∧ y.2.2.1.length = y.1 ∧ AgE f m (num t1) y.1 (y.2.2.1.map emv) y.2.2.2.1 y.2.2.2.2 ∧ (∀ e ∈ y.2.2.1, e.1 < 18446744073709551616) ∧ y.2.2.2.1.length ≤ N) (fun y => num t1 - y.1) rfl (0, (none, 0), [], l1, w1) ⟨Nat.zero_le _, rfl, ag_es1 hag hrb hs1, fun e he => absurd he (by simp), Nat.le_trans hs1.len hll⟩ (Sub.cons rfl (Sub.cons rfl (Sub.cons rfl (Sub.cons rfl (Sub.cons rfl (Sub.cons rfl (Sub.cons rfl (Sub.cons rfl Sub.nil)))))))) (fun w' hS => sub_st (H' := [pt b2 31 (mgc Z0 P0), pt b6 63 [.pointer (some ⟨gb, 0, none⟩)], pt b7 31 (mgc m P0), rdr gb F l1 w1, row 46 3 P0.A P0.n P0.c (cellsL emc P0.Q), dtB 5 (P0.Q.map emd), row 3 1 P0.cA P0.cn P0.cc (m.cf.map zv), row 5 1 P0.dA P0.dn P0.dc (m.dt.map bv)]) w' hS) ?_
      rintro ⟨j, ⟨A1, c1⟩, Q, l, why⟩ ⟨hj, hQj, hae, hQu, hll⟩ J2 hJ2
      dsimp only at hj hQj hae hQu hll ⊢
      rcases Nat.lt_or_ge j (num t1) with hjl | hjl
      · skip
        focus (refine S_seq rfl ?_; refine S_region rfl rfl ?_; refine R_take (T_decT rfl (by omega)) ?_ rfl rfl; refine R_nil ?_; refine S_seq rfl ?_; refine S_true rfl rfl ?_; refine S_skip rfl ?_; refine S_seq rfl ?_; refine S_block rfl ?_)
        refine S_draw ([pt b7 31 (mgc ⟨m.K, m.F, m.T, m.tm, m.pl, Q.map emv, m.cm, m.ok, m.ix, m.cf, m.dt⟩ ⟨A1, j, c1, none, 0, 0, none, 0, 0, Q⟩)]) sub_st (by kernel_rfl) rfl (by kernel_rfl) (by kernel_rfl : _ = 8) ?_
        refine D_take 0 rfl (pev_ok rfl) ?_ rfl rfl (by kernel_rfl) (by kernel_rfl)
        refine D_take 1 rfl (T_load rfl rfl rfl rfl) ?_ rfl rfl (by kernel_rfl) (by kernel_rfl)
        refine D_take 2 rfl (pev_ok rfl) ?_ rfl rfl (by kernel_rfl) (by kernel_rfl)
        refine D_one 3 rfl (E_cloA (cap := [.pointer (some ⟨b6, 0, none⟩)]) rfl (E_htG (f := 41) (A1 := rdr gb F l why) ⟨_, Tryd.func41, rfl, by kernel_rfl⟩ (fun w hS hS2 => ent1_any w b6 gb F l why (by omega) (pt_apart (b := b6) hS rfl) hS2) rfl rfl)) ?_ rfl rfl (by kernel_rfl)
        rintro _ _ ⟨⟨⟨t, ki, D, cd, d⟩, l4, w4⟩, rfl, ⟨t2, l2, w2, t3, l3, w3, t4, l5, w5, hs2, hs3, hs4, hs5, ht, hk, hn2⟩, rfl⟩; dsimp only [List.cons_append, List.nil_append]
        refine Nx_same sub_st ?_
        refine D_one 4 rfl (E_litS (vs := [.agg (emc (t, ki, D, cd, d)).toArray]) (size := 3) (ds := emc (t, ki, D, cd, d)) rfl rfl rfl rfl rfl rfl (by simp [vcells, emc_len]) (by simp [vcells]) (by omega)) ?_ rfl rfl (by kernel_rfl)
        rintro _ _ ⟨vb, rfl, rfl⟩
        refine Nx_same sub_st ?_
        refine D_one 5 rfl (E_appS (sz := 3) (m := j) (c := c1) (A := A1) rfl rfl rfl rfl rfl rfl rfl (by decide) (Srd.pt (n := 1) (g := vb) (ds := emc (t, ki, D, cd, d)) rfl (fun j u hj => by rw [Nat.zero_add]; exact hj)) (emc_one _) (by show (j + 1) * 40 ≤ _; omega) (by unfold maxLen; omega)) ?_ rfl rfl (by kernel_rfl)
        rintro _ _ ⟨A2, c2, rfl, rfl⟩
        refine Nx_same sub_st ?_
        refine D_take 6 rfl (pev_ok rfl) ?_ rfl rfl (by kernel_rfl) (by kernel_rfl)
        refine D_one 7 rfl (E_storeA1 (gb := b7) (t := 31) (cs := mgc ⟨m.K, m.F, m.T, m.tm, m.pl, Q.map emv, m.cm, m.ok, m.ix, m.cf, m.dt⟩ ⟨A1, j, c1, none, 0, 0, none, 0, 0, Q⟩) (v := .slice A2 (j + 1) c2) (cs' := mgc ⟨m.K, m.F, m.T, m.tm, m.pl, (Q ++ [(t, ki, D, cd, d)]).map emv, m.cm, m.ok, m.ix, m.cf, m.dt⟩ ⟨A2, j + 1, c2, none, 0, 0, none, 0, 0, Q ++ [(t, ki, D, cd, d)]⟩) rfl rfl rfl rfl rfl rfl (by show 6 < 12; omega)) ?_ rfl rfl (by kernel_rfl)
        rintro _ _ rfl
        refine Nx_pivot (by kernel_rfl) ?_
        refine D_done ?_ (by kernel_rfl)
        skip
        dsimp only at hs5 ht hk
        focus (refine RS_blk ?_; refine S_region rfl rfl ?_; refine R_take (T_addN rfl rfl (by unfold fits; omega)) ?_ rfl rfl; refine R_p rfl ?_ rfl rfl; refine R_nil ?_)
        refine hJ2 (j + 1, (A2, c2), Q ++ [(t, ki, D, cd, d)], l4, w4) _ _ ⟨by show j + 1 ≤ num t1; omega, by dsimp only; rw [List.length_append, hQj]; rfl, ?_, ?_, Nat.le_trans hs5.len (Nat.le_trans hs4.len (Nat.le_trans hs3.len (Nat.le_trans hs2.len hll)))⟩ (Sub.cons rfl (Sub.cons rfl (Sub.cons rfl (Sub.cons rfl (Sub.cons rfl (Sub.cons rfl (Sub.cons rfl (Sub.cons rfl Sub.nil)))))))) (fun w' hS => ?_) (by show num t1 - (j + 1) < num t1 - j; omega)
        · have h9 := ag_es2 hae hjl hs2 hs3 hs4 hs5
          rw [← ht, ← hk] at h9
          show AgE f m (num t1) (j + 1) ((Q ++ [(t, ki, D, cd, d)]).map emv) l4 w4
          rw [List.map_append]
          exact h9
        · intro e he
          rcases List.mem_append.1 he with he | he
          · exact hQu e he
          · rw [List.mem_singleton.1 he]; show t < _; omega
        · have h9 := dtB_put (e := 5) (d := (D, cd, d)) (D := Q.map emd) (sub_st (H' := [row 5 1 D d.length cd (d.map bv), dtB 5 (Q.map emd), pt b2 31 (mgc Z0 P0), pt b6 63 [.pointer (some ⟨gb, 0, none⟩)], pt b7 31 (mgc ⟨m.K, m.F, m.T, m.tm, m.pl, (Q ++ [(t, ki, D, cd, d)]).map emv, m.cm, m.ok, m.ix, m.cf, m.dt⟩ ⟨A2, j + 1, c2, none, 0, 0, none, 0, 0, Q ++ [(t, ki, D, cd, d)]⟩), rdr gb F l4 w4, row 46 3 A2 (j + 1) c2 (cellsL emc Q ++ emc (t, ki, D, cd, d)), row 3 1 none 0 0 (m.cf.map zv), row 5 1 none 0 0 (m.dt.map bv)]) w' hS)
          have e1 : cellsL emc (Q ++ [(t, ki, D, cd, d)]) = cellsL emc Q ++ emc (t, ki, D, cd, d) := by rw [cellsL_app, cellsL_one]
          have e2 : (Q ++ [((t, ki, D, cd, d) : Em)]).map emd = Q.map emd ++ [((D, cd, d) : Dt)] := by rw [List.map_append]; rfl
          show St _ _ [pt b2 31 (mgc Z0 P0), pt b6 63 [.pointer (some ⟨gb, 0, none⟩)], pt b7 31 (mgc ⟨m.K, m.F, m.T, m.tm, m.pl, (Q ++ [(t, ki, D, cd, d)]).map emv, m.cm, m.ok, m.ix, m.cf, m.dt⟩ ⟨A2, (j + 1), c2, none, 0, 0, none, 0, 0, (Q ++ [(t, ki, D, cd, d)])⟩), rdr gb F l4 w4, row 46 3 A2 (j + 1) c2 (cellsL emc (Q ++ [(t, ki, D, cd, d)])), dtB 5 ((Q ++ [(t, ki, D, cd, d)]).map emd), row 3 1 none 0 0 (m.cf.map zv), row 5 1 none 0 0 (m.dt.map bv)] w'
          rw [e1, e2]
          exact sub_st w' h9
      obtain rfl : j = num t1 := by omega
      focus (refine S_seq rfl ?_; refine S_region rfl rfl ?_; refine R_take (T_decF rfl (by omega)) ?_ rfl rfl; refine R_nil ?_; refine S_seq rfl ?_; refine S_false rfl rfl ?_; refine S_exit rfl rfl ?_)
      refine hJ (⟨m.K, m.F, m.T, m.tm, m.pl, Q.map emv, m.cm, m.ok, m.ix, m.cf, m.dt⟩, ⟨A1, num t1, c1, none, 0, 0, none, 0, 0, Q⟩, l, why) _ _ ⟨rfl, hK, ag_es3 hae, ⟨hmu.tm, hmu.p1, hmu.p2, hmu.cm, hmu.ix, fun e he => by obtain ⟨q, hq, rfl⟩ := List.mem_map.1 he; exact hQu q hq⟩, ⟨hQj, rfl, hwf.3, hwf.4⟩, hll⟩ (Sub.cons rfl (Sub.cons rfl (Sub.cons rfl (Sub.cons rfl (Sub.cons rfl Sub.nil))))) sub_st
  clear hpx hag hmu hwf hll hK hrb rb m p l why
  obtain ⟨m, p, l, why⟩ := y
  dsimp only at hy ⊢
  obtain ⟨hpx, hK, hag, hmu, hwf, hll⟩ := hy
  obtain ⟨rb, hrb⟩ : ∃ r, hasB K0 8 = r := ⟨_, rfl⟩
  focus (refine S_seq rfl ?_; refine S_seq rfl (S_region rfl rfl ?_); refine R_p rfl ?_ rfl rfl; (refine R_eff (E_hv0 (f := 39) ⟨_, Tryd.func39, rfl, by kernel_rfl⟩ (fun w hS => has_k w (fldN K0) 8 rb (fld_lt _) (by decide) hrb) rfl rfl (fun _ => rfl)) ?_ rfl rfl; rintro _ _ ⟨_, rfl, _, rfl⟩); refine R_nil ?_)
  refine S_cut (X := (Ms × Mp × List UInt8 × Int)) (fun y => [(0, .slice A N c), (2, .pointer (some ⟨b2, 0, none⟩)), (6, .pointer (some ⟨b6, 0, none⟩)), (7, .pointer (some ⟨b7, 0, none⟩)), (8, .int .i64 (fldN K0 : Int))]) (fun y => [pt b2 31 (mgc Z0 P0), pt b6 63 [.pointer (some ⟨gb, 0, none⟩)], pt b7 31 (mgc y.1 y.2.1), rdr gb F y.2.2.1 y.2.2.2, row 46 3 y.2.1.A y.2.1.n y.2.1.c (cellsL emc y.2.1.Q), dtB 5 (y.2.1.Q.map emd), row 3 1 y.2.1.cA y.2.1.cn y.2.1.cc (y.1.cf.map zv), row 5 1 y.2.1.dA y.2.1.dn y.2.1.dc (y.1.dt.map bv)]) (fun y => y.2.1 = ⟨y.2.1.A, y.2.1.n, y.2.1.c, none, 0, 0, none, 0, 0, y.2.1.Q⟩ ∧ y.1.K = K0 ∧ Ag f tr4 r4 y.1 y.2.2.1 y.2.2.2 ∧ MsU y.1 ∧ WfM y.1 y.2.1 ∧ y.2.2.1.length ≤ N) (fun J hJ => ?_) (fun y hy => ?_)
  · cases rb
    · focus (refine S_false rfl rfl ?_; refine S_skip rfl ?_)
      exact hJ (m, p, l, why) _ _ ⟨hpx, hK, ag_cm0 hag (hK ▸ hrb), hmu, hwf, hll⟩ (Sub.cons rfl (Sub.cons rfl (Sub.cons rfl (Sub.cons rfl (Sub.cons rfl Sub.nil))))) sub_st
    · have hrb : hasB m.K 8 = true := hK ▸ hrb
      focus (refine S_true rfl rfl ?_; refine S_region rfl rfl ?_; refine R_p rfl ?_ rfl rfl; refine R_take (T_load rfl rfl rfl rfl) ?_ rfl rfl; (refine R_eff (E_u64 (gb := gb) (F := F) (l := l) (why := why) rfl) ?_ rfl rfl; rintro _ _ ⟨t1, l1, w1, hs1, hn1, rfl, rfl⟩); refine R_p rfl ?_ rfl rfl; (refine R_eff0 (E_storeA1 (gb := b7) (t := 31) (cs := mgc m p) (v := .int .u64 (num t1 : Nat)) (cs' := mgc ⟨m.K, m.F, m.T, m.tm, m.pl, m.es, num t1, m.ok, m.ix, m.cf, m.dt⟩ p) rfl rfl rfl rfl rfl rfl (by show 7 < 12; omega)) ?_ rfl; rintro _ _ rfl); refine R_nil ?_)
      refine hJ (⟨m.K, m.F, m.T, m.tm, m.pl, m.es, num t1, m.ok, m.ix, m.cf, m.dt⟩, p, l1, w1) _ _ ⟨hpx, hK, ag_cm hag hrb hs1, ⟨hmu.tm, hmu.p1, hmu.p2, hn1, hmu.ix, hmu.es⟩, ⟨hwf.1, hwf.2, hwf.3, hwf.4⟩, Nat.le_trans hs1.len hll⟩ (Sub.cons rfl (Sub.cons rfl (Sub.cons rfl (Sub.cons rfl (Sub.cons rfl Sub.nil))))) sub_st
  clear hpx hag hmu hwf hll hK hrb rb m p l why
  obtain ⟨m, p, l, why⟩ := y
  dsimp only at hy ⊢
  obtain ⟨hpx, hK, hag, hmu, hwf, hll⟩ := hy
  obtain ⟨rb, hrb⟩ : ∃ r, hasB K0 16 = r := ⟨_, rfl⟩
  focus (refine S_seq rfl ?_; refine S_seq rfl (S_region rfl rfl ?_); refine R_p rfl ?_ rfl rfl; (refine R_eff (E_hv0 (f := 39) ⟨_, Tryd.func39, rfl, by kernel_rfl⟩ (fun w hS => has_k w (fldN K0) 16 rb (fld_lt _) (by decide) hrb) rfl rfl (fun _ => rfl)) ?_ rfl rfl; rintro _ _ ⟨_, rfl, _, rfl⟩); refine R_nil ?_)
  refine S_cut (X := (Ms × Mp × List UInt8 × Int)) (fun y => [(0, .slice A N c), (2, .pointer (some ⟨b2, 0, none⟩)), (6, .pointer (some ⟨b6, 0, none⟩)), (7, .pointer (some ⟨b7, 0, none⟩)), (8, .int .i64 (fldN K0 : Int))]) (fun y => [pt b2 31 (mgc Z0 P0), pt b6 63 [.pointer (some ⟨gb, 0, none⟩)], pt b7 31 (mgc y.1 y.2.1), rdr gb F y.2.2.1 y.2.2.2, row 46 3 y.2.1.A y.2.1.n y.2.1.c (cellsL emc y.2.1.Q), dtB 5 (y.2.1.Q.map emd), row 3 1 y.2.1.cA y.2.1.cn y.2.1.cc (y.1.cf.map zv), row 5 1 y.2.1.dA y.2.1.dn y.2.1.dc (y.1.dt.map bv)]) (fun y => y.2.1 = ⟨y.2.1.A, y.2.1.n, y.2.1.c, none, 0, 0, none, 0, 0, y.2.1.Q⟩ ∧ y.1.K = K0 ∧ Ag f tr5 r5 y.1 y.2.2.1 y.2.2.2 ∧ MsU y.1 ∧ WfM y.1 y.2.1 ∧ y.2.2.1.length ≤ N) (fun J hJ => ?_) (fun y hy => ?_)
  · cases rb
    · focus (refine S_false rfl rfl ?_; refine S_skip rfl ?_)
      exact hJ (m, p, l, why) _ _ ⟨hpx, hK, ag_ix0 hag (hK ▸ hrb), hmu, hwf, hll⟩ (Sub.cons rfl (Sub.cons rfl (Sub.cons rfl (Sub.cons rfl (Sub.cons rfl Sub.nil))))) sub_st
    · have hrb : hasB m.K 16 = true := hK ▸ hrb
      focus (refine S_true rfl rfl ?_; refine S_region rfl rfl ?_; refine R_p rfl ?_ rfl rfl; refine R_take (T_load rfl rfl rfl rfl) ?_ rfl rfl; (refine R_eff (E_u64 (gb := gb) (F := F) (l := l) (why := why) rfl) ?_ rfl rfl; rintro _ _ ⟨t1, l1, w1, hs1, hn1, rfl, rfl⟩); refine R_p rfl ?_ rfl rfl; (refine R_eff0 (E_storeA1 (gb := b7) (t := 31) (cs := mgc m p) (v := .int .u64 (num t1 : Nat)) (cs' := mgc ⟨m.K, m.F, m.T, m.tm, m.pl, m.es, m.cm, m.ok, num t1, m.cf, m.dt⟩ p) rfl rfl rfl rfl rfl rfl (by show 9 < 12; omega)) ?_ rfl; rintro _ _ rfl); refine R_nil ?_)
      refine hJ (⟨m.K, m.F, m.T, m.tm, m.pl, m.es, m.cm, m.ok, num t1, m.cf, m.dt⟩, p, l1, w1) _ _ ⟨hpx, hK, ag_ix hag hrb hs1, ⟨hmu.tm, hmu.p1, hmu.p2, hmu.cm, hn1, hmu.es⟩, ⟨hwf.1, hwf.2, hwf.3, hwf.4⟩, Nat.le_trans hs1.len hll⟩ (Sub.cons rfl (Sub.cons rfl (Sub.cons rfl (Sub.cons rfl (Sub.cons rfl Sub.nil))))) sub_st
  clear hpx hag hmu hwf hll hK hrb rb m p l why
  obtain ⟨m, p, l, why⟩ := y
  dsimp only at hy ⊢
  obtain ⟨hpx, hK, hag, hmu, hwf, hll⟩ := hy
  obtain ⟨rb, hrb⟩ : ∃ r, hasB K0 32 = r := ⟨_, rfl⟩
  focus (refine S_seq rfl ?_; refine S_seq rfl (S_region rfl rfl ?_); refine R_p rfl ?_ rfl rfl; (refine R_eff (E_hv0 (f := 39) ⟨_, Tryd.func39, rfl, by kernel_rfl⟩ (fun w hS => has_k w (fldN K0) 32 rb (fld_lt _) (by decide) hrb) rfl rfl (fun _ => rfl)) ?_ rfl rfl; rintro _ _ ⟨_, rfl, _, rfl⟩); refine R_nil ?_)
  refine S_cut (X := (Ms × Mp × List UInt8 × Int)) (fun y => [(0, .slice A N c), (2, .pointer (some ⟨b2, 0, none⟩)), (6, .pointer (some ⟨b6, 0, none⟩)), (7, .pointer (some ⟨b7, 0, none⟩)), (8, .int .i64 (fldN K0 : Int))]) (fun y => [pt b2 31 (mgc Z0 P0), pt b6 63 [.pointer (some ⟨gb, 0, none⟩)], pt b7 31 (mgc y.1 y.2.1), rdr gb F y.2.2.1 y.2.2.2, row 46 3 y.2.1.A y.2.1.n y.2.1.c (cellsL emc y.2.1.Q), dtB 5 (y.2.1.Q.map emd), row 3 1 y.2.1.cA y.2.1.cn y.2.1.cc (y.1.cf.map zv), row 5 1 y.2.1.dA y.2.1.dn y.2.1.dc (y.1.dt.map bv)]) (fun y => y.2.1 = ⟨y.2.1.A, y.2.1.n, y.2.1.c, y.2.1.cA, y.2.1.cn, y.2.1.cc, none, 0, 0, y.2.1.Q⟩ ∧ y.1.K = K0 ∧ Ag f tr6 r6 y.1 y.2.2.1 y.2.2.2 ∧ MsU y.1 ∧ WfM y.1 y.2.1 ∧ y.2.2.1.length ≤ N) (fun J hJ => ?_) (fun y hy => ?_)
  · cases rb
    · focus (refine S_false rfl rfl ?_; refine S_skip rfl ?_)
      exact hJ (m, p, l, why) _ _ ⟨(by rw [hpx]), hK, ag_cf0 hag (hK ▸ hrb), hmu, hwf, hll⟩ (Sub.cons rfl (Sub.cons rfl (Sub.cons rfl (Sub.cons rfl (Sub.cons rfl Sub.nil))))) sub_st
    · have hrb : hasB m.K 32 = true := hK ▸ hrb
      have hc0 : m.cf = [] := List.eq_nil_of_length_eq_zero (by rw [hwf.3, hpx])
      focus (refine S_true rfl rfl ?_; refine S_seq rfl (S_region rfl rfl ?_); refine R_p rfl ?_ rfl rfl; refine R_take (T_load rfl rfl rfl rfl) ?_ rfl rfl; (refine R_eff (E_u8 (gb := gb) (F := F) (l := l) (why := why) rfl) ?_ rfl rfl; rintro _ _ ⟨t1, l1, w1, hs1, hn1, rfl, rfl⟩); refine R_take (T_convf rfl rfl rfl rfl (by unfold fits; omega)) ?_ rfl rfl; refine R_p rfl ?_ rfl rfl; refine R_nil ?_; refine S_block rfl ?_)
      refine S_loop (X := Nat × (Option Addr × Nat) × List Int × List UInt8 × Int) (fun y => [(0, .slice A N c), (2, .pointer (some ⟨b2, 0, none⟩)), (6, .pointer (some ⟨b6, 0, none⟩)), (7, .pointer (some ⟨b7, 0, none⟩)), (8, .int .i64 (fldN K0 : Int)), (99, .int .i64 (num t1 : Nat)), (100, .int .i64 (y.1 : Int))]) (fun y => [pt b2 31 (mgc Z0 P0), pt b6 63 [.pointer (some ⟨gb, 0, none⟩)], pt b7 31 (mgc ⟨m.K, m.F, m.T, m.tm, m.pl, m.es, m.cm, m.ok, m.ix, y.2.2.1, m.dt⟩ ⟨p.A, p.n, p.c, y.2.1.1, y.1, y.2.1.2, none, 0, 0, p.Q⟩), rdr gb F y.2.2.2.1 y.2.2.2.2, row 46 3 p.A p.n p.c (cellsL emc p.Q), dtB 5 (p.Q.map emd), row 3 1 y.2.1.1 y.1 y.2.1.2 ((y.2.2.1).map zv), row 5 1 none 0 0 (m.dt.map bv)]) (fun y => y.1 ≤ num t1 ∧ y.2.2.1.length = y.1 ∧ AgC f m (num t1) y.1 y.2.2.1 y.2.2.2.1 y.2.2.2.2 ∧ y.2.2.2.1.length ≤ N) (fun y => num t1 - y.1) rfl (0, (none, 0), [], l1, w1) ⟨Nat.zero_le _, rfl, ag_cf1 hag hrb hs1, Nat.le_trans hs1.len hll⟩ (Sub.cons rfl (Sub.cons rfl (Sub.cons rfl (Sub.cons rfl (Sub.cons rfl (Sub.cons rfl (Sub.cons rfl Sub.nil))))))) (fun w' hS => ?_) ?_
      · have h9 := sub_st (H' := [pt b2 31 (mgc Z0 P0), pt b6 63 [.pointer (some ⟨gb, 0, none⟩)], pt b7 31 (mgc m p), rdr gb F l1 w1, row 46 3 p.A p.n p.c (cellsL emc p.Q), dtB 5 (p.Q.map emd), row 3 1 p.cA p.cn p.cc (m.cf.map zv), row 5 1 p.dA p.dn p.dc (m.dt.map bv)]) w' hS
        rw [hpx, hc0] at h9
        exact h9
      rintro ⟨j, ⟨A1, c1⟩, L, l, why⟩ ⟨hj, hLj, hae, hll⟩ J2 hJ2
      dsimp only at hj hLj hae hll ⊢
      rcases Nat.lt_or_ge j (num t1) with hjl | hjl
      · skip
        focus (refine S_seq rfl ?_; refine S_region rfl rfl ?_; refine R_take (T_decT rfl (by omega)) ?_ rfl rfl; refine R_nil ?_; refine S_seq rfl ?_; refine S_true rfl rfl ?_; refine S_skip rfl ?_; refine S_seq rfl ?_; refine S_block rfl ?_)
        refine S_draw ([pt b6 63 [.pointer (some ⟨gb, 0, none⟩)], pt b7 31 (mgc ⟨m.K, m.F, m.T, m.tm, m.pl, m.es, m.cm, m.ok, m.ix, L, m.dt⟩ ⟨p.A, p.n, p.c, A1, j, c1, none, 0, 0, p.Q⟩)]) sub_st (by kernel_rfl) rfl (by kernel_rfl) (by kernel_rfl : _ = 12) ?_
        refine D_take 0 rfl (pev_ok rfl) ?_ rfl rfl (by kernel_rfl) (by kernel_rfl)
        refine D_take 1 rfl (pev_ok rfl) ?_ rfl rfl (by kernel_rfl) (by kernel_rfl)
        refine D_take 2 rfl (T_load rfl rfl rfl rfl) ?_ rfl rfl (by kernel_rfl) (by kernel_rfl)
        refine D_take 3 rfl (pev_ok rfl) ?_ rfl rfl (by kernel_rfl) (by kernel_rfl)
        refine D_take 4 rfl (T_load rfl rfl rfl rfl) ?_ rfl rfl (by kernel_rfl) (by kernel_rfl)
        refine D_one 5 rfl (E_u8 (gb := gb) (F := F) (l := l) (why := why) rfl) ?_ rfl rfl (by kernel_rfl)
        rintro _ _ ⟨t2, l2, w2, hs2, hn2, rfl, rfl⟩
        refine Nx_same sub_st ?_
        (refine D_take 6 rfl (T_convf rfl rfl rfl rfl (by unfold fits; omega)) ?_ rfl rfl (by kernel_rfl) (by kernel_rfl))
        refine D_one 7 rfl (E_lit1 (m := 1) (vs := [.int .i64 (num t2 : Nat)]) rfl rfl rfl rfl rfl rfl rfl (by simp [Value.oneCell']) (by decide)) ?_ rfl rfl (by kernel_rfl)
        rintro _ _ ⟨vb, rfl, rfl⟩
        refine Nx_same sub_st ?_
        refine D_one 8 rfl (E_app1 (A := A1) (m := j) (c := c1) (xs := L.map zv) (news := [.int .i64 (num t2 : Nat)]) rfl rfl rfl rfl rfl rfl rfl (Srd.pt (n := 1) (g := vb) (size := 1) (ds := [.int .i64 (num t2 : Nat)]) rfl (fun j u hj => by rw [Nat.zero_add]; exact hj)) (by simp [Value.oneCell']) (by show (j + 1) * 8 ≤ _; omega) (by unfold maxLen; omega)) ?_ rfl rfl (by kernel_rfl)
        rintro _ _ ⟨A2, c2, rfl, rfl⟩
        refine Nx_same sub_st ?_
        refine D_take 9 rfl (pev_ok rfl) ?_ rfl rfl (by kernel_rfl) (by kernel_rfl)
        refine D_take 10 rfl (pev_ok rfl) ?_ rfl rfl (by kernel_rfl) (by kernel_rfl)
        refine D_one 11 rfl (E_storeA1 (gb := b7) (t := 31) (cs := mgc ⟨m.K, m.F, m.T, m.tm, m.pl, m.es, m.cm, m.ok, m.ix, L, m.dt⟩ ⟨p.A, p.n, p.c, A1, j, c1, none, 0, 0, p.Q⟩) (v := .slice A2 (j + 1) c2) (cs' := mgc ⟨m.K, m.F, m.T, m.tm, m.pl, m.es, m.cm, m.ok, m.ix, (L ++ [((num t2 : Nat) : Int)]), m.dt⟩ ⟨p.A, p.n, p.c, A2, (j + 1), c2, none, 0, 0, p.Q⟩) rfl rfl rfl rfl rfl rfl (by show 10 < 12; omega)) ?_ rfl rfl (by kernel_rfl)
        rintro _ _ rfl
        refine Nx_pivot (by kernel_rfl) ?_
        refine D_done ?_ (by kernel_rfl)
        skip
        focus (refine RS_blk ?_; refine S_region rfl rfl ?_; refine R_take (T_addN rfl rfl (by unfold fits; omega)) ?_ rfl rfl; refine R_p rfl ?_ rfl rfl; refine R_nil ?_)
        refine hJ2 (j + 1, (A2, c2), L ++ [((num t2 : Nat) : Int)], l2, w2) _ _ ⟨by show j + 1 ≤ num t1; omega, by dsimp only; rw [List.length_append, hLj]; rfl, ag_cf2 hae hjl hs2, Nat.le_trans hs2.len hll⟩ (Sub.cons rfl (Sub.cons rfl (Sub.cons rfl (Sub.cons rfl (Sub.cons rfl (Sub.cons rfl (Sub.cons rfl Sub.nil))))))) (fun w' hS => ?_) (by show num t1 - (j + 1) < num t1 - j; omega)
        have e1 : (L ++ [((num t2 : Nat) : Int)]).map zv = L.map zv ++ [.int .i64 ((num t2 : Nat) : Int)] := by rw [List.map_append]; rfl
        show St _ _ [pt b2 31 (mgc Z0 P0), pt b6 63 [.pointer (some ⟨gb, 0, none⟩)], pt b7 31 (mgc ⟨m.K, m.F, m.T, m.tm, m.pl, m.es, m.cm, m.ok, m.ix, (L ++ [((num t2 : Nat) : Int)]), m.dt⟩ ⟨p.A, p.n, p.c, A2, (j + 1), c2, none, 0, 0, p.Q⟩), rdr gb F l2 w2, row 46 3 p.A p.n p.c (cellsL emc p.Q), dtB 5 (p.Q.map emd), row 3 1 A2 (j + 1) c2 (((L ++ [((num t2 : Nat) : Int)])).map zv), row 5 1 none 0 0 (m.dt.map bv)] w'
        rw [e1]
        exact sub_st w' hS
      obtain rfl : j = num t1 := by omega
      focus (refine S_seq rfl ?_; refine S_region rfl rfl ?_; refine R_take (T_decF rfl (by omega)) ?_ rfl rfl; refine R_nil ?_; refine S_seq rfl ?_; refine S_false rfl rfl ?_; refine S_exit rfl rfl ?_)
      refine hJ (⟨m.K, m.F, m.T, m.tm, m.pl, m.es, m.cm, m.ok, m.ix, L, m.dt⟩, ⟨p.A, p.n, p.c, A1, num t1, c1, none, 0, 0, p.Q⟩, l, why) _ _ ⟨rfl, hK, ag_cf3 hae, ⟨hmu.tm, hmu.p1, hmu.p2, hmu.cm, hmu.ix, hmu.es⟩, ⟨hwf.1, hwf.2, hLj, by rw [hwf.4, hpx]⟩, hll⟩ (Sub.cons rfl (Sub.cons rfl (Sub.cons rfl (Sub.cons rfl (Sub.cons rfl Sub.nil))))) sub_st
  clear hpx hag hmu hwf hll hK hrb rb m p l why
  obtain ⟨m, p, l, why⟩ := y
  dsimp only at hy ⊢
  obtain ⟨hpx, hK, hag, hmu, hwf, hll⟩ := hy
  obtain ⟨rb, hrb⟩ : ∃ r, hasB K0 64 = r := ⟨_, rfl⟩
  focus (refine S_seq rfl ?_; refine S_seq rfl (S_region rfl rfl ?_); refine R_p rfl ?_ rfl rfl; (refine R_eff (E_hv0 (f := 39) ⟨_, Tryd.func39, rfl, by kernel_rfl⟩ (fun w hS => has_k w (fldN K0) 64 rb (fld_lt _) (by decide) hrb) rfl rfl (fun _ => rfl)) ?_ rfl rfl; rintro _ _ ⟨_, rfl, _, rfl⟩); refine R_nil ?_)
  refine S_cut (X := (Ms × Mp × List UInt8 × Int)) (fun y => [(0, .slice A N c), (2, .pointer (some ⟨b2, 0, none⟩)), (6, .pointer (some ⟨b6, 0, none⟩)), (7, .pointer (some ⟨b7, 0, none⟩)), (8, .int .i64 (fldN K0 : Int))]) (fun y => [pt b2 31 (mgc Z0 P0), pt b6 63 [.pointer (some ⟨gb, 0, none⟩)], pt b7 31 (mgc y.1 y.2.1), rdr gb F y.2.2.1 y.2.2.2, row 46 3 y.2.1.A y.2.1.n y.2.1.c (cellsL emc y.2.1.Q), dtB 5 (y.2.1.Q.map emd), row 3 1 y.2.1.cA y.2.1.cn y.2.1.cc (y.1.cf.map zv), row 5 1 y.2.1.dA y.2.1.dn y.2.1.dc (y.1.dt.map bv)]) (fun y => y.2.1 = y.2.1 ∧ y.1.K = K0 ∧ Ag f tr7 r7 y.1 y.2.2.1 y.2.2.2 ∧ MsU y.1 ∧ WfM y.1 y.2.1 ∧ y.2.2.1.length ≤ N) (fun J hJ => ?_) (fun y hy => ?_)
  · cases rb
    · focus (refine S_false rfl rfl ?_; refine S_skip rfl ?_)
      exact hJ (m, p, l, why) _ _ ⟨rfl, hK, ag_dt0 hag (hK ▸ hrb), hmu, hwf, hll⟩ (Sub.cons rfl (Sub.cons rfl (Sub.cons rfl (Sub.cons rfl (Sub.cons rfl Sub.nil))))) sub_st
    · have hrb : hasB m.K 64 = true := hK ▸ hrb
      focus (refine S_true rfl rfl ?_)
      refine S_draw ([pt b6 63 [.pointer (some ⟨gb, 0, none⟩)]]) sub_st (by kernel_rfl) rfl (by kernel_rfl) (by kernel_rfl : _ = 9) ?_
      refine D_take 0 rfl (pev_ok rfl) ?_ rfl rfl (by kernel_rfl) (by kernel_rfl)
      refine D_take 1 rfl (T_load rfl rfl rfl rfl) ?_ rfl rfl (by kernel_rfl) (by kernel_rfl)
      refine D_take 2 rfl (pev_ok rfl) ?_ rfl rfl (by kernel_rfl) (by kernel_rfl)
      refine D_take 3 rfl (T_load rfl rfl rfl rfl) ?_ rfl rfl (by kernel_rfl) (by kernel_rfl)
      refine D_one 4 rfl (E_u32 (gb := gb) (F := F) (l := l) (why := why) rfl) ?_ rfl rfl (by kernel_rfl)
      rintro _ _ ⟨t1, l1, w1, hs1, hn1, rfl, rfl⟩
      refine Nx_same sub_st ?_
      (refine D_take 5 rfl (T_convf rfl rfl rfl rfl (by unfold fits; omega)) ?_ rfl rfl (by kernel_rfl) (by kernel_rfl))
      refine D_one 6 rfl (E_raw (gb := gb) (F := F) (l := l1) (why := w1) (k := (num t1 : Nat)) rfl rfl (Nat.le_trans hs1.len (by omega))) ?_ rfl rfl (by kernel_rfl)
      rintro _ _ ⟨d, l2, w2, D, cd, hs2, rfl, rfl⟩
      refine Nx_same sub_st ?_
      refine D_take 7 rfl (pev_ok rfl) ?_ rfl rfl (by kernel_rfl) (by kernel_rfl)
      refine D_one 8 rfl (E_storeA1 (gb := b7) (t := 31) (cs := mgc m p) (v := .slice D d.length cd) (cs' := mgc ⟨m.K, m.F, m.T, m.tm, m.pl, m.es, m.cm, m.ok, m.ix, m.cf, d⟩ ⟨p.A, p.n, p.c, p.cA, p.cn, p.cc, D, d.length, cd, p.Q⟩) rfl rfl rfl rfl rfl rfl (by show 11 < 12; omega)) ?_ rfl rfl (by kernel_rfl)
      rintro _ _ rfl
      refine Nx_pivot (by kernel_rfl) ?_
      refine D_done ?_ (by kernel_rfl)
      skip
      skip
      refine hJ (⟨m.K, m.F, m.T, m.tm, m.pl, m.es, m.cm, m.ok, m.ix, m.cf, d⟩, ⟨p.A, p.n, p.c, p.cA, p.cn, p.cc, D, d.length, cd, p.Q⟩, l2, w2) _ _ ⟨rfl, hK, ag_dt hag hrb hs1 hs2, ⟨hmu.tm, hmu.p1, hmu.p2, hmu.cm, hmu.ix, hmu.es⟩, ⟨hwf.1, hwf.2, hwf.3, rfl⟩, Nat.le_trans hs2.len (Nat.le_trans hs1.len hll)⟩ (Sub.cons rfl (Sub.cons rfl (Sub.cons rfl (Sub.cons rfl (Sub.cons rfl Sub.nil))))) sub_st
  clear hpx hag hmu hwf hll hK hrb rb m p l why
  obtain ⟨m, p, l, why⟩ := y
  dsimp only at hy ⊢
  obtain ⟨_, hK, hag, hmu, hwf, hll⟩ := hy
  have hfin : ∀ x, DecP (f ++ e) x → why = 0 ∧ m = x := fun x hx => by
    obtain ⟨_, h2, h3, h4⟩ := decP_f hel hx
    obtain ⟨a1, _, a3⟩ := hag x h2 h3 h4
    exact ⟨a1, a3⟩
  by_cases hw0 : why = 0
  rotate_left
  · skip
    focus (refine S_seq rfl ?_; refine S_seq rfl (S_region rfl rfl ?_); refine R_p rfl ?_ rfl rfl; refine R_take (T_load rfl rfl rfl rfl) ?_ rfl rfl; (refine R_eff (E_err (gb := gb) (F := F) (l := l) rfl) ?_ rfl rfl; rintro _ _ ⟨rfl, rfl⟩); refine R_take (T_decT rfl (by omega)) ?_ rfl rfl; refine R_p rfl ?_ rfl rfl; (iterate 3 refine R_skip ?_ rfl rfl); (iterate 2 refine R_p rfl ?_ rfl rfl); (iterate 5 refine R_skip ?_ rfl rfl); refine R_p rfl ?_ rfl rfl; refine R_nil ?_; refine S_true rfl rfl ?_; refine S_seq rfl (S_region rfl rfl ?_); refine R_take (T_build0 mg_built0) ?_ rfl rfl; (refine R_eff0 (E_storew (cs := mgc Z0 P0) (ds := mgc Z0 P0) rfl rfl rfl rfl (mgc_one _ _) rfl) ?_ rfl; rintro _ _ rfl); refine R_p rfl ?_ rfl rfl; refine R_nil ?_)
    exact hB _ _ _ _ _ rfl (.cell rfl rfl rfl inferInstance rfl (.tmp rfl .nil)) fun w' hS => ⟨(Z0, P0, 231), rfl, ⟨⟨rfl, rfl, rfl, rfl⟩, .inr ⟨rfl, rfl, rfl, fun x hx => hw0 (hfin x hx).1⟩⟩, sub_st (H' := [row 46 3 none 0 0 [], dtB 5 [], row 3 1 none 0 0 [], row 5 1 none 0 0 []]) w' (dtB_nil (e := 5) (((hS.nilrow 46 3).nilrow 3 1).nilrow 5 1))⟩
  subst hw0
  cases hrm : rightM m
  · skip
    focus (refine S_seq rfl ?_; refine S_seq rfl (S_region rfl rfl ?_); refine R_p rfl ?_ rfl rfl; refine R_take (T_load rfl rfl rfl rfl) ?_ rfl rfl; (refine R_eff (E_err (gb := gb) (F := F) (l := l) rfl) ?_ rfl rfl; rintro _ _ ⟨rfl, rfl⟩); refine R_take (T_decF rfl (by omega)) ?_ rfl rfl; refine R_p rfl ?_ rfl rfl; refine R_take (T_loads (ds := mgc m p) rfl rfl rfl rfl rfl) ?_ rfl rfl; ((refine R_eff (E_hv0 (f := 13) ⟨_, Tryd.func13, rfl, by kernel_rfl⟩ (fun w hS => checkM_any w m p (own_msr hS (by simp) (by simp) (by simp) (by simp) hwf) _ hrm) rfl rfl (fun _ => rfl)) ?_ rfl rfl; rintro _ _ ⟨_, rfl, _, rfl⟩); first | rw [if_pos rfl] | rw [if_neg (by decide)]); refine R_take (T_decT rfl (by omega)) ?_ rfl rfl; refine R_take (T_decT rfl (by omega)) ?_ rfl rfl; refine R_take (T_decT rfl (by omega)) ?_ rfl rfl; (iterate 5 refine R_skip ?_ rfl rfl); refine R_take (T_decT rfl (by omega)) ?_ rfl rfl; refine R_nil ?_; refine S_true rfl rfl ?_; refine S_seq rfl (S_region rfl rfl ?_); refine R_take (T_build0 mg_built0) ?_ rfl rfl; (refine R_eff0 (E_storew (cs := mgc Z0 P0) (ds := mgc Z0 P0) rfl rfl rfl rfl (mgc_one _ _) rfl) ?_ rfl; rintro _ _ rfl); refine R_p rfl ?_ rfl rfl; refine R_nil ?_)
    exact hB _ _ _ _ _ rfl (.cell rfl rfl rfl inferInstance rfl (.tmp rfl .nil)) fun w' hS => ⟨(Z0, P0, 231), rfl, ⟨⟨rfl, rfl, rfl, rfl⟩, .inr ⟨rfl, rfl, rfl, fun x hx => by rw [(hfin x hx).2] at hrm; rw [right_ok.2 (decP_f hel hx).2.1] at hrm; cases hrm⟩⟩, sub_st (H' := [row 46 3 none 0 0 [], dtB 5 [], row 3 1 none 0 0 [], row 5 1 none 0 0 []]) w' (dtB_nil (e := 5) (((hS.nilrow 46 3).nilrow 3 1).nilrow 5 1))⟩
  have hok := right_ok.1 hrm
  cases hr2 : decide (plainB m = f)
  · skip
    focus (refine S_seq rfl ?_; refine S_seq rfl (S_region rfl rfl ?_); refine R_p rfl ?_ rfl rfl; refine R_take (T_load rfl rfl rfl rfl) ?_ rfl rfl; (refine R_eff (E_err (gb := gb) (F := F) (l := l) rfl) ?_ rfl rfl; rintro _ _ ⟨rfl, rfl⟩); refine R_take (T_decF rfl (by omega)) ?_ rfl rfl; refine R_p rfl ?_ rfl rfl; refine R_take (T_loads (ds := mgc m p) rfl rfl rfl rfl rfl) ?_ rfl rfl; ((refine R_eff (E_hv0 (f := 13) ⟨_, Tryd.func13, rfl, by kernel_rfl⟩ (fun w hS => checkM_any w m p (own_msr hS (by simp) (by simp) (by simp) (by simp) hwf) _ hrm) rfl rfl (fun _ => rfl)) ?_ rfl rfl; rintro _ _ ⟨_, rfl, _, rfl⟩); first | rw [if_pos rfl] | rw [if_neg (by decide)]); refine R_take (T_decF rfl (by omega)) ?_ rfl rfl; (iterate 2 refine R_p rfl ?_ rfl rfl); refine R_take (T_loads (ds := mgc m p) rfl rfl rfl rfl rfl) ?_ rfl rfl; (refine R_eff (E_hv1 (f := 22) ⟨_, Tryd.func22, rfl, by kernel_rfl⟩ (fun w hS => plain_k w m p (own_msr hS (by simp) (by simp) (by simp) (by simp) hwf) hmu hok (plainB m) (plainB m).length rfl rfl) rfl rfl (fun _ => rfl)) ?_ rfl rfl; rintro _ _ ⟨⟨A9, c9⟩, rfl, _, rfl⟩); refine R_p rfl ?_ rfl rfl; (refine R_eff (E_hv0 (f := 21) ⟨_, Tryd.func21, rfl, by kernel_rfl⟩ (fun w hS => oeq_k w A9 A (plainB m).length c9 N c (plainB m) f (row_bs (e := 5) hS (by simp) rfl) (hbF.keep hS.kpO) _ hr2) rfl rfl (fun _ => rfl)) ?_ rfl rfl; rintro _ _ ⟨_, rfl, _, rfl⟩); refine R_take (T_not rfl) ?_ rfl rfl; refine R_take (T_decT rfl (by omega)) ?_ rfl rfl; refine R_nil ?_; refine S_true rfl rfl ?_; refine S_seq rfl (S_region rfl rfl ?_); refine R_take (T_build0 mg_built0) ?_ rfl rfl; (refine R_eff0 (E_storew (cs := mgc Z0 P0) (ds := mgc Z0 P0) rfl rfl rfl rfl (mgc_one _ _) rfl) ?_ rfl; rintro _ _ rfl); refine R_p rfl ?_ rfl rfl; refine R_nil ?_)
    exact hB _ _ _ _ _ rfl (.cell rfl rfl rfl inferInstance rfl (.tmp rfl .nil)) fun w' hS => ⟨(Z0, P0, 231), rfl, ⟨⟨rfl, rfl, rfl, rfl⟩, .inr ⟨rfl, rfl, rfl, fun x hx => of_decide_eq_false hr2 (by rw [(hfin x hx).2]; exact (decP_f hel hx).2.2.2)⟩⟩, sub_st (H' := [row 46 3 none 0 0 [], dtB 5 [], row 3 1 none 0 0 [], row 5 1 none 0 0 []]) w' (dtB_nil (e := 5) (((hS.nilrow 46 3).nilrow 3 1).nilrow 5 1))⟩
  · skip
    focus (refine S_seq rfl ?_; refine S_seq rfl (S_region rfl rfl ?_); refine R_p rfl ?_ rfl rfl; refine R_take (T_load rfl rfl rfl rfl) ?_ rfl rfl; (refine R_eff (E_err (gb := gb) (F := F) (l := l) rfl) ?_ rfl rfl; rintro _ _ ⟨rfl, rfl⟩); refine R_take (T_decF rfl (by omega)) ?_ rfl rfl; refine R_p rfl ?_ rfl rfl; refine R_take (T_loads (ds := mgc m p) rfl rfl rfl rfl rfl) ?_ rfl rfl; ((refine R_eff (E_hv0 (f := 13) ⟨_, Tryd.func13, rfl, by kernel_rfl⟩ (fun w hS => checkM_any w m p (own_msr hS (by simp) (by simp) (by simp) (by simp) hwf) _ hrm) rfl rfl (fun _ => rfl)) ?_ rfl rfl; rintro _ _ ⟨_, rfl, _, rfl⟩); first | rw [if_pos rfl] | rw [if_neg (by decide)]); refine R_take (T_decF rfl (by omega)) ?_ rfl rfl; (iterate 2 refine R_p rfl ?_ rfl rfl); refine R_take (T_loads (ds := mgc m p) rfl rfl rfl rfl rfl) ?_ rfl rfl; (refine R_eff (E_hv1 (f := 22) ⟨_, Tryd.func22, rfl, by kernel_rfl⟩ (fun w hS => plain_k w m p (own_msr hS (by simp) (by simp) (by simp) (by simp) hwf) hmu hok (plainB m) (plainB m).length rfl rfl) rfl rfl (fun _ => rfl)) ?_ rfl rfl; rintro _ _ ⟨⟨A9, c9⟩, rfl, _, rfl⟩); refine R_p rfl ?_ rfl rfl; (refine R_eff (E_hv0 (f := 21) ⟨_, Tryd.func21, rfl, by kernel_rfl⟩ (fun w hS => oeq_k w A9 A (plainB m).length c9 N c (plainB m) f (row_bs (e := 5) hS (by simp) rfl) (hbF.keep hS.kpO) _ hr2) rfl rfl (fun _ => rfl)) ?_ rfl rfl; rintro _ _ ⟨_, rfl, _, rfl⟩); refine R_take (T_not rfl) ?_ rfl rfl; refine R_p rfl ?_ rfl rfl; refine R_nil ?_; refine S_false rfl rfl ?_; refine S_skip rfl ?_; refine S_seq rfl (S_region rfl rfl ?_); refine R_take (T_loads (ds := mgc m p) rfl rfl rfl rfl rfl) ?_ rfl rfl; (refine R_eff0 (E_storew (cs := mgc Z0 P0) (ds := mgc m p) rfl rfl rfl rfl (mgc_one _ _) rfl) ?_ rfl; rintro _ _ rfl); refine R_p rfl ?_ rfl rfl; refine R_nil ?_)
    exact hB _ _ _ _ _ rfl (.cell rfl rfl rfl inferInstance rfl (.tmp rfl .nil)) fun w' hS => ⟨(m, p, 0), rfl, ⟨hwf, .inl ⟨rfl, ⟨f, by rw [hse], hok, hmu, of_decide_eq_true hr2⟩, fun x hx => (hfin x hx).2⟩⟩, sub_st w' hS⟩
end Go.Proofs.YtdbehejbeioboaaDoor
