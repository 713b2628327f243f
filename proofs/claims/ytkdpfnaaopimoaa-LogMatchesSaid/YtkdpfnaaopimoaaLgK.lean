/- The statement LogChecks. -/
import Derived.Test.YtkdpfnaaopimoaaLgJ
namespace Go.Proofs.Ytkdpfnaaopimoaa
open Go.RowKit Go.ChangeShapes Go.WideShapes Go.ChangeAt
open Asn (pt row rb)
set_option linter.unusedVariables false
set_option linter.unusedSimpArgs false
--@use N

theorem T_bnq {P : Program} [HasTab P] {n : Nat} {w0 : World} {M : Nat → Prop} {T : Slots} {H : List Asn} {dd : Option Tmp} {tt : TypeId} {pos : String} {af : Array Edge} {g : Option (Nat × Bool)} {x y : Operand} {t u : TypeId} {b c r : Bool} {i : Ti} (hx : oget T x = some (.bool b)) (hy : oget T y = some (.bool c)) (ht : ty P t = some i) (hi : i.desc = .bool) (hr : (b != c) = r) :
    Tk P n w0 M T H ⟨dd, .binOp .neq t x y u, tt, pos, af, g⟩ (.bool r) := hr ▸ T_bne hx hy ht hi
/-- entries that say L, their bytes within their rooms -/
def Sh (L : List En) : Type := {P : List Em // P.map emv = L ∧ ∀ m ∈ P, m.2.2.2.2.length ≤ m.2.2.2.1}
theorem short_S (w : World) (a : At) (A : Option Addr) (c : Nat) (Q : List Em) (k : Nat) (hk : Q.length = k) (h : Rd w All 3 A k (cellsL emc Q)) (hd : RDt w All (Q.map emd)) (hcap : ∀ m ∈ Q, m.2.2.2.2.length ≤ m.2.2.2.1) (L : List En) (hL : cutE (Q.map emv) 17 = L) (K : Nat) (hK : L.length = K) :
    Gives Try.prog 11 [.agg (lgc a A k c).toArray] [] w (X := (Option Addr × Nat) × Sh L) (fun x => .agg (lgc a x.1.1 K x.1.2).toArray) (fun x => K ≤ x.1.2) (fun x => [row 44 3 x.1.1 K x.1.2 (cellsL emc x.2.1), dtB 5 (x.2.1.map emd)]) := by
  subst hk
  subst hK
  subst hL
  exact (short_any w a A c Q h hd hcap).mono fun e w' ⟨⟨⟨A5, c5⟩, P⟩, he, ⟨h1, h2, h3⟩, hS⟩ => ⟨((A5, c5), ⟨P, h1, h3⟩), he, h2, hS⟩
theorem rightD_k (w : World) (a : At) (A : Option Addr) (c k : Nat) (Q : List Em) (l : List En) (hk : Q.length = k) (hl : Q.map emv = l) (h : Rd w All 3 A k (cellsL emc Q)) (hn : k ≤ 100000) (r : Bool) (hr : rightB a l = r) :
    Gives Try.prog 16 [.agg (lgc a A k c).toArray] [] w (X := Unit) (fun _ => .bool r) (fun _ => True) (fun _ => []) := by
  subst hk
  subst hl
  subst hr
  exact rightD_any w a A c Q h hn
theorem same_kr (w : World) (a b : At) (A A2 : Option Addr) (c c2' k k2 : Nat) (Q M : List Em) (l l2 : List En) (hk : Q.length = k) (hk2 : M.length = k2) (hl : Q.map emv = l) (hl2 : M.map emv = l2) (h : Rd w All 3 A k (cellsL emc Q)) (h2 : Rd w All 3 A2 k2 (cellsL emc M)) (hq : ∀ m ∈ Q, BsM w m) (hm : ∀ m ∈ M, BsM w m) (hn : k ≤ 100000) (hn2 : k2 ≤ 100000) (r : Bool) (hr : (decide (a = b) && decide (l = l2)) = r) :
    Gives Try.prog 28 [.agg (lgc a A k c).toArray, .agg (lgc b A2 k2 c2').toArray] [] w (X := Unit) (fun _ => .bool r) (fun _ => True) (fun _ => []) := by
  subst hk
  subst hk2
  subst hl
  subst hl2
  subst hr
  exact same_any w a b A A2 c c2' Q M h h2 hq hm hn hn2
theorem sameD_kr (w : World) (a b : At) (A A2 : Option Addr) (c c2' k k2 : Nat) (Q M : List Em) (l l2 : List En) (hk : Q.length = k) (hk2 : M.length = k2) (hl : Q.map emv = l) (hl2 : M.map emv = l2) (h : Rd w All 3 A k (cellsL emc Q)) (h2 : Rd w All 3 A2 k2 (cellsL emc M)) (hq : ∀ m ∈ Q, BsM w m) (hm : ∀ m ∈ M, BsM w m) (hn : k ≤ 100000) (hn2 : k2 ≤ 100000) (r : Bool) (hr : (decide (a = b) && decide (l = l2)) = r) :
    Gives Try.prog 14 [.agg (lgc a A k c).toArray, .agg (lgc b A2 k2 c2').toArray] [] w (X := Unit) (fun _ => .bool r) (fun _ => True) (fun _ => []) := by
  subst hk
  subst hk2
  subst hl
  subst hl2
  subst hr
  exact sameD_any w a b A A2 c c2' Q M h h2 hq hm hn hn2
theorem cutE_again (l : List En) (n : Nat) : cutE (cutE l n) n = cutE l n := by
  unfold cutE
  rw [← List.map_take, List.take_take, Nat.min_self, List.map_map]
  refine List.map_congr_left fun e _ => ?_
  show (e.1, e.2.1, (e.2.2.take 1025).take 1025) = _
  rw [List.take_take, Nat.min_self]
/-- a log as it lies -/
abbrev Lm := At × Option Addr × Nat × List Em
def lmc (q : Lm) : List Value := lgc q.1 q.2.1 q.2.2.2.length q.2.2.1
theorem lmc_len (q : Lm) : (lmc q).length = 3 := rfl
def LmR (w : World) (q : Lm) : Prop := Rd w All 3 q.2.1 q.2.2.2.length (cellsL emc q.2.2.2) ∧ RDt w All (q.2.2.2.map emd) ∧ ∀ m ∈ q.2.2.2, m.2.2.2.2.length ≤ m.2.2.2.1
set_option maxRecDepth 100000 in
set_option maxHeartbeats 4000000 in
theorem checks_any (w : World) (A : Option Addr) (c : Nat) (Z : List Lm) (h : Rd w All 3 A Z.length (cellsL lmc Z)) (hz : ∀ q ∈ Z, LmR w q) (hZl : Z.length ≤ maxLen) (top : Nat) :
    Gives Try.prog 7 [.slice A Z.length c, .int .u64 (top : Int)] [] w (X := Unit) (fun _ => .bool true) (fun _ => True) (fun _ => []) := by
  refine gives_S Try.func7 rfl Try.ntmps7 Try.results7 (by simp) (St.enter w) (fun B hB => ?_)
  have hZm : Z.length ≤ 9223372036854775807 := hZl
  have hne : 0 < Z.length → A ≠ none := fun h0 => by obtain ⟨ad, rfl, _⟩ := h.2 (by omega); simp
  focus (refine S_seq rfl ?_; refine S_region rfl rfl ?_; refine R_p rfl ?_ rfl rfl; refine R_nil ?_; refine S_seq rfl ?_; refine S_seq rfl ?_; refine S_region rfl rfl ?_; (refine R_eff (E_hv0 (f := 10) ⟨_, Try.func10, rfl, by kernel_rfl⟩ (fun w hS => wakes12_any w) rfl rfl (fun _ => rfl)) ?_ rfl rfl; rintro _ _ ⟨_, rfl, _, rfl⟩); refine R_take (T_not rfl) ?_ rfl rfl; refine R_nil ?_; refine S_false rfl rfl ?_; refine S_skip rfl ?_; refine S_seq rfl ?_; refine S_seq rfl ?_; refine S_region rfl rfl ?_; refine R_p rfl ?_ rfl rfl; refine R_p rfl ?_ rfl rfl; refine R_p rfl ?_ rfl rfl; refine R_nil ?_; refine S_block rfl ?_)
  refine S_loop (X := Nat) (fun j => [(0, .slice A Z.length c), (1, .int .u64 (top : Int)), (12, .slice A Z.length c), (13, .int .i64 (Z.length : Int)), (14, .int .i64 (j : Int))]) (fun _ => []) (fun j => j ≤ Z.length) (fun j => Z.length - j) rfl 0 (Nat.zero_le _) (Sub.cons rfl (Sub.cons rfl (Sub.cons rfl (Sub.cons rfl (Sub.cons rfl Sub.nil))))) (fun _ h => h) ?_
  rintro j hj J hJ
  rcases Nat.lt_or_ge j Z.length with hjl | hjl
  · have hne := hne (by omega)
    have h0l : 0 < Z.length := by omega
    have hat := cellsL_at (f := lmc) lmc_len Z default j hjl
    have hat0 := cellsL_at (f := lmc) lmc_len Z default 0 h0l
    have hx := hz (Z.getD j default) (by simp [List.getD, hjl])
    have hy := hz (Z.getD 0 default) (by simp [List.getD, h0l])
    generalize Z.getD j default = x at hat hx
    generalize Z.getD 0 default = y at hat0 hy
    obtain ⟨a1, A1, c1', Q1⟩ := x
    obtain ⟨a2, A2, c2', Q2⟩ := y
    obtain ⟨h1, hd1, hcap1⟩ := hx
    obtain ⟨h2, hd2, hcap2⟩ := hy
    have hat : ∀ e v, (lgc a1 A1 Q1.length c1')[e]? = some v → (cellsL lmc Z)[j * 3 + e]? = some v := hat
    have hat0 : ∀ e v, (lgc a2 A2 Q2.length c2')[e]? = some v → (cellsL lmc Z)[0 * 3 + e]? = some v := hat0
    have h1 : Rd w All 3 A1 Q1.length (cellsL emc Q1) := h1
    have h2 : Rd w All 3 A2 Q2.length (cellsL emc Q2) := h2
    have hd1 : RDt w All (Q1.map emd) := hd1
    have hd2 : RDt w All (Q2.map emd) := hd2
    have hcap1 : ∀ m ∈ Q1, m.2.2.2.2.length ≤ m.2.2.2.1 := hcap1
    have hcap2 : ∀ m ∈ Q2, m.2.2.2.2.length ≤ m.2.2.2.1 := hcap2
    have hL1 := cutE_len (Q1.map emv) 17
    have hL2 := cutE_len (Q2.map emv) 17
    have hLL := cutE_again (Q1.map emv) 17
    obtain ⟨L1, e1⟩ : ∃ L, cutE (Q1.map emv) 17 = L := ⟨_, rfl⟩
    obtain ⟨L2, e2⟩ : ∃ L, cutE (Q2.map emv) 17 = L := ⟨_, rfl⟩
    rw [e1] at hL1 hLL
    rw [e2] at hL2
    obtain ⟨K1, hK1⟩ : ∃ K, L1.length = K := ⟨_, rfl⟩
    obtain ⟨K2, hK2⟩ : ∃ K, L2.length = K := ⟨_, rfl⟩
    by_cases hj12 : j = 12
    · focus (refine S_seq rfl ?_; refine S_region rfl rfl ?_; refine R_take (T_decT rfl (by omega)) ?_ rfl rfl; refine R_nil ?_; refine S_seq rfl ?_; refine S_true rfl rfl ?_; refine S_skip rfl ?_; refine S_seq rfl ?_; refine S_block rfl ?_; refine S_seq rfl ?_; refine S_region rfl rfl ?_; refine R_p rfl ?_ rfl rfl; refine R_take (T_ixM (sz := 3) (q := j) rfl rfl rfl rfl rfl rfl hne hjl) ?_ rfl rfl; refine R_take (T_lda (ds := lgc a1 A1 Q1.length c1') rfl rfl rfl (Srd.old h (fun k _ => noOwns k)) rfl (by omega) hat) ?_ rfl rfl; (refine R_eff (E_alloca rfl lg_zero) ?_ rfl rfl; rintro _ _ ⟨b6, rfl, rfl⟩); refine R_p rfl ?_ rfl rfl; (refine R_eff0 (E_storew (cs := lgc (0, 0) none 0 0) (ds := lgc a1 A1 Q1.length c1') rfl rfl rfl rfl (lgc_one _ _ _ _) rfl) ?_ rfl; rintro _ _ rfl); refine R_nil ?_; refine S_seq rfl ?_; refine S_seq rfl ?_; refine S_region rfl rfl ?_; refine R_p rfl ?_ rfl rfl; refine R_take (T_decT rfl (by omega)) ?_ rfl rfl; refine R_nil ?_; refine S_true rfl rfl ?_; refine S_exit rfl rfl ?_; refine S_seq rfl ?_; refine S_region rfl rfl ?_; refine R_p rfl ?_ rfl rfl; refine R_nil ?_)
      exact hB _ _ _ _ _ rfl rfl fun w' hS => ⟨(), rfl, trivial, hS.sublist (List.nil_sublist _)⟩
    focus (refine S_seq rfl ?_; refine S_region rfl rfl ?_; refine R_take (T_decT rfl (by omega)) ?_ rfl rfl; refine R_nil ?_; refine S_seq rfl ?_; refine S_true rfl rfl ?_; refine S_skip rfl ?_; refine S_seq rfl ?_; refine S_block rfl ?_; refine S_seq rfl ?_; refine S_region rfl rfl ?_; refine R_p rfl ?_ rfl rfl; refine R_take (T_ixM (sz := 3) (q := j) rfl rfl rfl rfl rfl rfl hne hjl) ?_ rfl rfl; refine R_take (T_lda (ds := lgc a1 A1 Q1.length c1') rfl rfl rfl (Srd.old h (fun k _ => noOwns k)) rfl (by omega) hat) ?_ rfl rfl; (refine R_eff (E_alloca rfl lg_zero) ?_ rfl rfl; rintro _ _ ⟨b6, rfl, rfl⟩); refine R_p rfl ?_ rfl rfl; (refine R_eff0 (E_storew (cs := lgc (0, 0) none 0 0) (ds := lgc a1 A1 Q1.length c1') rfl rfl rfl rfl (lgc_one _ _ _ _) rfl) ?_ rfl; rintro _ _ rfl); refine R_nil ?_; refine S_seq rfl ?_; refine S_seq rfl ?_; refine S_region rfl rfl ?_; refine R_p rfl ?_ rfl rfl; refine R_take (T_decF rfl (by omega)) ?_ rfl rfl; refine R_nil ?_; refine S_false rfl rfl ?_; refine S_skip rfl ?_; refine S_seq rfl ?_)
    refine S_cut (X := Nat × Nat × (Option Addr × Nat × Sh L1) × (Option Addr × Nat × Sh L2)) (fun x => [(0, .slice A Z.length c), (1, .int .u64 (top : Int)), (12, .slice A Z.length c), (13, .int .i64 (Z.length : Int)), (14, .int .i64 (j : Int)), (7, .pointer (some ⟨x.1, 0, none⟩)), (8, .pointer (some ⟨x.2.1, 0, none⟩))]) (fun x => [pt x.1 27 (lgc a1 x.2.2.1.1 K1 x.2.2.1.2.1), pt x.2.1 27 (lgc a2 x.2.2.2.1 K2 x.2.2.2.2.1), row 44 3 x.2.2.1.1 K1 x.2.2.1.2.1 (cellsL emc x.2.2.1.2.2.1), dtB 5 (x.2.2.1.2.2.1.map emd), row 44 3 x.2.2.2.1 K2 x.2.2.2.2.1 (cellsL emc x.2.2.2.2.2.1), dtB 5 (x.2.2.2.2.2.1.map emd)]) (fun _ => True) (fun J2 hJ2 => ?_) (fun x _ => ?_)
    · skip
      refine S_draw ([pt b6 27 (lgc a1 A1 Q1.length c1')]) sub_st (by kernel_rfl) rfl (by kernel_rfl) (by kernel_rfl : _ = 10) ?_
      refine D_take 0 rfl (T_loads (ds := lgc a1 A1 Q1.length c1') rfl rfl rfl rfl rfl) ?_ rfl rfl (by kernel_rfl) (by kernel_rfl)
      refine D_take 2 rfl (pev_ok rfl) ?_ rfl rfl (by kernel_rfl) (by kernel_rfl)
      refine D_take 3 rfl (T_ixM (sz := 3) (q := 0) rfl rfl rfl rfl rfl rfl hne h0l) ?_ rfl rfl (by kernel_rfl) (by kernel_rfl)
      refine D_take 4 rfl (T_lda (ds := lgc a2 A2 Q2.length c2') rfl rfl rfl (Srd.old h (fun k _ => noOwns k)) rfl (by omega) hat0) ?_ rfl rfl (by kernel_rfl) (by kernel_rfl)
      refine D_node #[true, true, true, true, true, true, true, true, false, false] (fun x : Option Addr × Nat × Sh L1 × Option Addr × Nat × Sh L2 × Nat × Nat => [(8, .pointer (some ⟨x.2.2.2.2.2.2.2, 0, none⟩)), (7, .pointer (some ⟨x.2.2.2.2.2.2.1, 0, none⟩)), (26, .agg (lgc a2 x.2.2.2.1 K2 x.2.2.2.2.1).toArray), (22, .agg (lgc a1 x.1 K1 x.2.1).toArray), (25, .agg (lgc a2 A2 Q2.length c2').toArray), (21, .agg (lgc a1 A1 Q1.length c1').toArray), (0, .slice A Z.length c), (1, .int .u64 (top : Int)), (12, .slice A Z.length c), (13, .int .i64 (Z.length : Int)), (14, .int .i64 (j : Int))]) (fun x : Option Addr × Nat × Sh L1 × Option Addr × Nat × Sh L2 × Nat × Nat => [pt x.2.2.2.2.2.2.2 27 (lgc (0, 0) none 0 0), pt x.2.2.2.2.2.2.1 27 (lgc (0, 0) none 0 0), row 44 3 x.2.2.2.1 K2 x.2.2.2.2.1 (cellsL emc x.2.2.2.2.2.1.1), dtB 5 (x.2.2.2.2.2.1.1.map emd), row 44 3 x.1 K1 x.2.1 (cellsL emc x.2.2.1.1), dtB 5 (x.2.2.1.1.map emd), pt b6 27 (lgc a1 A1 Q1.length c1')]) (fun nd0 => ?_) (fun x => ?_)
      refine D_nodeR #[true, true, true, true, true, true, true, false, false, false] (fun x : Option Addr × Nat × Sh L1 × Option Addr × Nat × Sh L2 × Nat => [(7, .pointer (some ⟨x.2.2.2.2.2.2, 0, none⟩)), (26, .agg (lgc a2 x.2.2.2.1 K2 x.2.2.2.2.1).toArray), (22, .agg (lgc a1 x.1 K1 x.2.1).toArray), (25, .agg (lgc a2 A2 Q2.length c2').toArray), (21, .agg (lgc a1 A1 Q1.length c1').toArray), (0, .slice A Z.length c), (1, .int .u64 (top : Int)), (12, .slice A Z.length c), (13, .int .i64 (Z.length : Int)), (14, .int .i64 (j : Int))]) (fun x : Option Addr × Nat × Sh L1 × Option Addr × Nat × Sh L2 × Nat => [pt x.2.2.2.2.2.2 27 (lgc (0, 0) none 0 0), row 44 3 x.2.2.2.1 K2 x.2.2.2.2.1 (cellsL emc x.2.2.2.2.2.1.1), dtB 5 (x.2.2.2.2.2.1.1.map emd), row 44 3 x.1 K1 x.2.1 (cellsL emc x.2.2.1.1), dtB 5 (x.2.2.1.1.map emd), pt b6 27 (lgc a1 A1 Q1.length c1')]) (fun x => ?_) (fun nd1 => ?_)
      · skip
        obtain ⟨A5, c5, P5, A6, c6, P6, b7⟩ := x
        try dsimp only
        refine D_one 7 rfl (E_alloca rfl lg_zero) ?_ rfl rfl (by kernel_rfl)
        rintro _ _ ⟨b8, rfl, rfl⟩
        refine Nx_same sub_st ?_
        have h := nd0 (A5, c5, P5, A6, c6, P6, b7, b8)
        try dsimp only at h
        exact D_at h (by repeat first | exact Sub.nil | refine Sub.cons rfl ?_) sub_st (by kernel_rfl)
      refine D_nodeR #[true, true, true, true, true, true, false, true, false, false] (fun x : Option Addr × Nat × Sh L1 × Option Addr × Nat × Sh L2 × Nat => [(8, .pointer (some ⟨x.2.2.2.2.2.2, 0, none⟩)), (26, .agg (lgc a2 x.2.2.2.1 K2 x.2.2.2.2.1).toArray), (22, .agg (lgc a1 x.1 K1 x.2.1).toArray), (25, .agg (lgc a2 A2 Q2.length c2').toArray), (21, .agg (lgc a1 A1 Q1.length c1').toArray), (0, .slice A Z.length c), (1, .int .u64 (top : Int)), (12, .slice A Z.length c), (13, .int .i64 (Z.length : Int)), (14, .int .i64 (j : Int))]) (fun x : Option Addr × Nat × Sh L1 × Option Addr × Nat × Sh L2 × Nat => [pt x.2.2.2.2.2.2 27 (lgc (0, 0) none 0 0), row 44 3 x.2.2.2.1 K2 x.2.2.2.2.1 (cellsL emc x.2.2.2.2.2.1.1), dtB 5 (x.2.2.2.2.2.1.1.map emd), row 44 3 x.1 K1 x.2.1 (cellsL emc x.2.2.1.1), dtB 5 (x.2.2.1.1.map emd), pt b6 27 (lgc a1 A1 Q1.length c1')]) (fun x => ?_) (fun nd2 => ?_)
      · skip
        obtain ⟨A5, c5, P5, A6, c6, P6, b8⟩ := x
        try dsimp only
        refine D_one 6 rfl (E_alloca rfl lg_zero) ?_ rfl rfl (by kernel_rfl)
        rintro _ _ ⟨b7, rfl, rfl⟩
        refine Nx_same sub_st ?_
        have h := nd0 (A5, c5, P5, A6, c6, P6, b7, b8)
        try dsimp only at h
        exact D_at h (by repeat first | exact Sub.nil | refine Sub.cons rfl ?_) sub_st (by kernel_rfl)
      refine D_nodeR #[true, true, true, true, true, false, true, true, false, false] (fun x : Option Addr × Nat × Sh L1 × Nat × Nat => [(8, .pointer (some ⟨x.2.2.2.2, 0, none⟩)), (7, .pointer (some ⟨x.2.2.2.1, 0, none⟩)), (22, .agg (lgc a1 x.1 K1 x.2.1).toArray), (25, .agg (lgc a2 A2 Q2.length c2').toArray), (21, .agg (lgc a1 A1 Q1.length c1').toArray), (0, .slice A Z.length c), (1, .int .u64 (top : Int)), (12, .slice A Z.length c), (13, .int .i64 (Z.length : Int)), (14, .int .i64 (j : Int))]) (fun x : Option Addr × Nat × Sh L1 × Nat × Nat => [pt x.2.2.2.2 27 (lgc (0, 0) none 0 0), pt x.2.2.2.1 27 (lgc (0, 0) none 0 0), row 44 3 x.1 K1 x.2.1 (cellsL emc x.2.2.1.1), dtB 5 (x.2.2.1.1.map emd), pt b6 27 (lgc a1 A1 Q1.length c1')]) (fun x => ?_) (fun nd3 => ?_)
      · skip
        obtain ⟨A5, c5, P5, b7, b8⟩ := x
        try dsimp only
        refine D_one 5 rfl (E_hvG (f := 11) ⟨_, Try.func11, rfl, by kernel_rfl⟩ (fun w hS => short_S w a2 A2 c2' Q2 Q2.length rfl ((Srd.old h2 (fun k _ => noOwns k)).rd w hS) ((SDt.old hd2 (fun k _ => noOwns k)).rd w hS) hcap2 L2 e2 K2 hK2) rfl rfl) ?_ rfl rfl (by kernel_rfl)
        rintro _ _ ⟨⟨⟨A6, c6⟩, P6⟩, rfl, _, rfl⟩; dsimp only [List.cons_append, List.nil_append]
        refine Nx_same sub_st ?_
        have h := nd0 (A5, c5, P5, A6, c6, P6, b7, b8)
        try dsimp only at h
        exact D_at h (by repeat first | exact Sub.nil | refine Sub.cons rfl ?_) sub_st (by kernel_rfl)
      refine D_nodeR #[true, true, true, true, true, true, false, false, false, false] (fun x : Option Addr × Nat × Sh L1 × Option Addr × Nat × Sh L2 => [(26, .agg (lgc a2 x.2.2.2.1 K2 x.2.2.2.2.1).toArray), (22, .agg (lgc a1 x.1 K1 x.2.1).toArray), (25, .agg (lgc a2 A2 Q2.length c2').toArray), (21, .agg (lgc a1 A1 Q1.length c1').toArray), (0, .slice A Z.length c), (1, .int .u64 (top : Int)), (12, .slice A Z.length c), (13, .int .i64 (Z.length : Int)), (14, .int .i64 (j : Int))]) (fun x : Option Addr × Nat × Sh L1 × Option Addr × Nat × Sh L2 => [row 44 3 x.2.2.2.1 K2 x.2.2.2.2.1 (cellsL emc x.2.2.2.2.2.1), dtB 5 (x.2.2.2.2.2.1.map emd), row 44 3 x.1 K1 x.2.1 (cellsL emc x.2.2.1.1), dtB 5 (x.2.2.1.1.map emd), pt b6 27 (lgc a1 A1 Q1.length c1')]) (fun x => ?_) (fun nd4 => ?_)
      · skip
        obtain ⟨A5, c5, P5, A6, c6, P6⟩ := x
        try dsimp only
        refine D_two 6 7 (by decide) rfl rfl (E_alloca rfl lg_zero) (E_alloca rfl lg_zero) ?_ ?_ rfl rfl rfl rfl (by kernel_rfl)
        · rintro _ _ ⟨b7, rfl, rfl⟩
          refine Nx_same sub_st ?_
          have h := nd1 (A5, c5, P5, A6, c6, P6, b7)
          try dsimp only at h
          exact D_at h (by repeat first | exact Sub.nil | refine Sub.cons rfl ?_) sub_st (by kernel_rfl)
        · rintro _ _ ⟨b8, rfl, rfl⟩
          refine Nx_same sub_st ?_
          have h := nd2 (A5, c5, P5, A6, c6, P6, b8)
          try dsimp only at h
          exact D_at h (by repeat first | exact Sub.nil | refine Sub.cons rfl ?_) sub_st (by kernel_rfl)
      refine D_nodeR #[true, true, true, true, true, false, true, false, false, false] (fun x : Option Addr × Nat × Sh L1 × Nat => [(7, .pointer (some ⟨x.2.2.2, 0, none⟩)), (22, .agg (lgc a1 x.1 K1 x.2.1).toArray), (25, .agg (lgc a2 A2 Q2.length c2').toArray), (21, .agg (lgc a1 A1 Q1.length c1').toArray), (0, .slice A Z.length c), (1, .int .u64 (top : Int)), (12, .slice A Z.length c), (13, .int .i64 (Z.length : Int)), (14, .int .i64 (j : Int))]) (fun x : Option Addr × Nat × Sh L1 × Nat => [pt x.2.2.2 27 (lgc (0, 0) none 0 0), row 44 3 x.1 K1 x.2.1 (cellsL emc x.2.2.1.1), dtB 5 (x.2.2.1.1.map emd), pt b6 27 (lgc a1 A1 Q1.length c1')]) (fun x => ?_) (fun nd5 => ?_)
      · skip
        obtain ⟨A5, c5, P5, b7⟩ := x
        try dsimp only
        refine D_two 5 7 (by decide) rfl rfl (E_hvG (f := 11) ⟨_, Try.func11, rfl, by kernel_rfl⟩ (fun w hS => short_S w a2 A2 c2' Q2 Q2.length rfl ((Srd.old h2 (fun k _ => noOwns k)).rd w hS) ((SDt.old hd2 (fun k _ => noOwns k)).rd w hS) hcap2 L2 e2 K2 hK2) rfl rfl) (E_alloca rfl lg_zero) ?_ ?_ rfl rfl rfl rfl (by kernel_rfl)
        · rintro _ _ ⟨⟨⟨A6, c6⟩, P6⟩, rfl, _, rfl⟩; dsimp only [List.cons_append, List.nil_append]
          refine Nx_same sub_st ?_
          have h := nd1 (A5, c5, P5, A6, c6, P6, b7)
          try dsimp only at h
          exact D_at h (by repeat first | exact Sub.nil | refine Sub.cons rfl ?_) sub_st (by kernel_rfl)
        · rintro _ _ ⟨b8, rfl, rfl⟩
          refine Nx_same sub_st ?_
          have h := nd3 (A5, c5, P5, b7, b8)
          try dsimp only at h
          exact D_at h (by repeat first | exact Sub.nil | refine Sub.cons rfl ?_) sub_st (by kernel_rfl)
      refine D_nodeR #[true, true, true, true, true, false, false, true, false, false] (fun x : Option Addr × Nat × Sh L1 × Nat => [(8, .pointer (some ⟨x.2.2.2, 0, none⟩)), (22, .agg (lgc a1 x.1 K1 x.2.1).toArray), (25, .agg (lgc a2 A2 Q2.length c2').toArray), (21, .agg (lgc a1 A1 Q1.length c1').toArray), (0, .slice A Z.length c), (1, .int .u64 (top : Int)), (12, .slice A Z.length c), (13, .int .i64 (Z.length : Int)), (14, .int .i64 (j : Int))]) (fun x : Option Addr × Nat × Sh L1 × Nat => [pt x.2.2.2 27 (lgc (0, 0) none 0 0), row 44 3 x.1 K1 x.2.1 (cellsL emc x.2.2.1.1), dtB 5 (x.2.2.1.1.map emd), pt b6 27 (lgc a1 A1 Q1.length c1')]) (fun x => ?_) (fun nd6 => ?_)
      · skip
        obtain ⟨A5, c5, P5, b8⟩ := x
        try dsimp only
        refine D_two 5 6 (by decide) rfl rfl (E_hvG (f := 11) ⟨_, Try.func11, rfl, by kernel_rfl⟩ (fun w hS => short_S w a2 A2 c2' Q2 Q2.length rfl ((Srd.old h2 (fun k _ => noOwns k)).rd w hS) ((SDt.old hd2 (fun k _ => noOwns k)).rd w hS) hcap2 L2 e2 K2 hK2) rfl rfl) (E_alloca rfl lg_zero) ?_ ?_ rfl rfl rfl rfl (by kernel_rfl)
        · rintro _ _ ⟨⟨⟨A6, c6⟩, P6⟩, rfl, _, rfl⟩; dsimp only [List.cons_append, List.nil_append]
          refine Nx_same sub_st ?_
          have h := nd2 (A5, c5, P5, A6, c6, P6, b8)
          try dsimp only at h
          exact D_at h (by repeat first | exact Sub.nil | refine Sub.cons rfl ?_) sub_st (by kernel_rfl)
        · rintro _ _ ⟨b7, rfl, rfl⟩
          refine Nx_same sub_st ?_
          have h := nd3 (A5, c5, P5, b7, b8)
          try dsimp only at h
          exact D_at h (by repeat first | exact Sub.nil | refine Sub.cons rfl ?_) sub_st (by kernel_rfl)
      refine D_nodeR #[true, false, true, true, true, false, true, true, false, false] (fun x : Nat × Nat => [(8, .pointer (some ⟨x.2, 0, none⟩)), (7, .pointer (some ⟨x.1, 0, none⟩)), (25, .agg (lgc a2 A2 Q2.length c2').toArray), (21, .agg (lgc a1 A1 Q1.length c1').toArray), (0, .slice A Z.length c), (1, .int .u64 (top : Int)), (12, .slice A Z.length c), (13, .int .i64 (Z.length : Int)), (14, .int .i64 (j : Int))]) (fun x : Nat × Nat => [pt x.2 27 (lgc (0, 0) none 0 0), pt x.1 27 (lgc (0, 0) none 0 0), pt b6 27 (lgc a1 A1 Q1.length c1')]) (fun x => ?_) (fun nd7 => ?_)
      · skip
        obtain ⟨b7, b8⟩ := x
        try dsimp only
        refine D_one 1 rfl (E_hvG (f := 11) ⟨_, Try.func11, rfl, by kernel_rfl⟩ (fun w hS => short_S w a1 A1 c1' Q1 Q1.length rfl ((Srd.old h1 (fun k _ => noOwns k)).rd w hS) ((SDt.old hd1 (fun k _ => noOwns k)).rd w hS) hcap1 L1 e1 K1 hK1) rfl rfl) ?_ rfl rfl (by kernel_rfl)
        rintro _ _ ⟨⟨⟨A5, c5⟩, P5⟩, rfl, _, rfl⟩; dsimp only [List.cons_append, List.nil_append]
        refine Nx_same sub_st ?_
        have h := nd3 (A5, c5, P5, b7, b8)
        try dsimp only at h
        exact D_at h (by repeat first | exact Sub.nil | refine Sub.cons rfl ?_) sub_st (by kernel_rfl)
      refine D_nodeR #[true, true, true, true, true, false, false, false, false, false] (fun x : Option Addr × Nat × Sh L1 => [(22, .agg (lgc a1 x.1 K1 x.2.1).toArray), (25, .agg (lgc a2 A2 Q2.length c2').toArray), (21, .agg (lgc a1 A1 Q1.length c1').toArray), (0, .slice A Z.length c), (1, .int .u64 (top : Int)), (12, .slice A Z.length c), (13, .int .i64 (Z.length : Int)), (14, .int .i64 (j : Int))]) (fun x : Option Addr × Nat × Sh L1 => [row 44 3 x.1 K1 x.2.1 (cellsL emc x.2.2.1), dtB 5 (x.2.2.1.map emd), pt b6 27 (lgc a1 A1 Q1.length c1')]) (fun x => ?_) (fun nd8 => ?_)
      · skip
        obtain ⟨A5, c5, P5⟩ := x
        try dsimp only
        refine D_three 5 6 7 rfl rfl rfl (E_hvG (f := 11) ⟨_, Try.func11, rfl, by kernel_rfl⟩ (fun w hS => short_S w a2 A2 c2' Q2 Q2.length rfl ((Srd.old h2 (fun k _ => noOwns k)).rd w hS) ((SDt.old hd2 (fun k _ => noOwns k)).rd w hS) hcap2 L2 e2 K2 hK2) rfl rfl) (E_alloca rfl lg_zero) (E_alloca rfl lg_zero) ?_ ?_ ?_ rfl rfl rfl rfl rfl rfl (by kernel_rfl)
        · rintro _ _ ⟨⟨⟨A6, c6⟩, P6⟩, rfl, _, rfl⟩; dsimp only [List.cons_append, List.nil_append]
          refine Nx_same sub_st ?_
          have h := nd4 (A5, c5, P5, A6, c6, P6)
          try dsimp only at h
          exact D_at h (by repeat first | exact Sub.nil | refine Sub.cons rfl ?_) sub_st (by kernel_rfl)
        · rintro _ _ ⟨b7, rfl, rfl⟩
          refine Nx_same sub_st ?_
          have h := nd5 (A5, c5, P5, b7)
          try dsimp only at h
          exact D_at h (by repeat first | exact Sub.nil | refine Sub.cons rfl ?_) sub_st (by kernel_rfl)
        · rintro _ _ ⟨b8, rfl, rfl⟩
          refine Nx_same sub_st ?_
          have h := nd6 (A5, c5, P5, b8)
          try dsimp only at h
          exact D_at h (by repeat first | exact Sub.nil | refine Sub.cons rfl ?_) sub_st (by kernel_rfl)
      refine D_nodeR #[true, false, true, true, true, false, true, false, false, false] (fun x : Nat => [(7, .pointer (some ⟨x, 0, none⟩)), (25, .agg (lgc a2 A2 Q2.length c2').toArray), (21, .agg (lgc a1 A1 Q1.length c1').toArray), (0, .slice A Z.length c), (1, .int .u64 (top : Int)), (12, .slice A Z.length c), (13, .int .i64 (Z.length : Int)), (14, .int .i64 (j : Int))]) (fun x : Nat => [pt x 27 (lgc (0, 0) none 0 0), pt b6 27 (lgc a1 A1 Q1.length c1')]) (fun x => ?_) (fun nd9 => ?_)
      · skip
        revert x; intro b7
        try dsimp only
        refine D_two 1 7 (by decide) rfl rfl (E_hvG (f := 11) ⟨_, Try.func11, rfl, by kernel_rfl⟩ (fun w hS => short_S w a1 A1 c1' Q1 Q1.length rfl ((Srd.old h1 (fun k _ => noOwns k)).rd w hS) ((SDt.old hd1 (fun k _ => noOwns k)).rd w hS) hcap1 L1 e1 K1 hK1) rfl rfl) (E_alloca rfl lg_zero) ?_ ?_ rfl rfl rfl rfl (by kernel_rfl)
        · rintro _ _ ⟨⟨⟨A5, c5⟩, P5⟩, rfl, _, rfl⟩; dsimp only [List.cons_append, List.nil_append]
          refine Nx_same sub_st ?_
          have h := nd5 (A5, c5, P5, b7)
          try dsimp only at h
          exact D_at h (by repeat first | exact Sub.nil | refine Sub.cons rfl ?_) sub_st (by kernel_rfl)
        · rintro _ _ ⟨b8, rfl, rfl⟩
          refine Nx_same sub_st ?_
          have h := nd7 (b7, b8)
          try dsimp only at h
          exact D_at h (by repeat first | exact Sub.nil | refine Sub.cons rfl ?_) sub_st (by kernel_rfl)
      refine D_nodeR #[true, false, true, true, true, false, false, true, false, false] (fun x : Nat => [(8, .pointer (some ⟨x, 0, none⟩)), (25, .agg (lgc a2 A2 Q2.length c2').toArray), (21, .agg (lgc a1 A1 Q1.length c1').toArray), (0, .slice A Z.length c), (1, .int .u64 (top : Int)), (12, .slice A Z.length c), (13, .int .i64 (Z.length : Int)), (14, .int .i64 (j : Int))]) (fun x : Nat => [pt x 27 (lgc (0, 0) none 0 0), pt b6 27 (lgc a1 A1 Q1.length c1')]) (fun x => ?_) (fun nd10 => ?_)
      · skip
        revert x; intro b8
        try dsimp only
        refine D_two 1 6 (by decide) rfl rfl (E_hvG (f := 11) ⟨_, Try.func11, rfl, by kernel_rfl⟩ (fun w hS => short_S w a1 A1 c1' Q1 Q1.length rfl ((Srd.old h1 (fun k _ => noOwns k)).rd w hS) ((SDt.old hd1 (fun k _ => noOwns k)).rd w hS) hcap1 L1 e1 K1 hK1) rfl rfl) (E_alloca rfl lg_zero) ?_ ?_ rfl rfl rfl rfl (by kernel_rfl)
        · rintro _ _ ⟨⟨⟨A5, c5⟩, P5⟩, rfl, _, rfl⟩; dsimp only [List.cons_append, List.nil_append]
          refine Nx_same sub_st ?_
          have h := nd6 (A5, c5, P5, b8)
          try dsimp only at h
          exact D_at h (by repeat first | exact Sub.nil | refine Sub.cons rfl ?_) sub_st (by kernel_rfl)
        · rintro _ _ ⟨b7, rfl, rfl⟩
          refine Nx_same sub_st ?_
          have h := nd7 (b7, b8)
          try dsimp only at h
          exact D_at h (by repeat first | exact Sub.nil | refine Sub.cons rfl ?_) sub_st (by kernel_rfl)
      refine D_nodeR #[true, false, true, true, true, false, false, false, false, false] (fun _ : Unit => [(25, .agg (lgc a2 A2 Q2.length c2').toArray), (21, .agg (lgc a1 A1 Q1.length c1').toArray), (0, .slice A Z.length c), (1, .int .u64 (top : Int)), (12, .slice A Z.length c), (13, .int .i64 (Z.length : Int)), (14, .int .i64 (j : Int))]) (fun _ : Unit => [pt b6 27 (lgc a1 A1 Q1.length c1')]) (fun x => ?_) (fun nd11 => ?_)
      · skip
        obtain ⟨⟩ := x
        try dsimp only
        refine D_three 1 6 7 rfl rfl rfl (E_hvG (f := 11) ⟨_, Try.func11, rfl, by kernel_rfl⟩ (fun w hS => short_S w a1 A1 c1' Q1 Q1.length rfl ((Srd.old h1 (fun k _ => noOwns k)).rd w hS) ((SDt.old hd1 (fun k _ => noOwns k)).rd w hS) hcap1 L1 e1 K1 hK1) rfl rfl) (E_alloca rfl lg_zero) (E_alloca rfl lg_zero) ?_ ?_ ?_ rfl rfl rfl rfl rfl rfl (by kernel_rfl)
        · rintro _ _ ⟨⟨⟨A5, c5⟩, P5⟩, rfl, _, rfl⟩; dsimp only [List.cons_append, List.nil_append]
          refine Nx_same sub_st ?_
          have h := nd8 (A5, c5, P5)
          try dsimp only at h
          exact D_at h (by repeat first | exact Sub.nil | refine Sub.cons rfl ?_) sub_st (by kernel_rfl)
        · rintro _ _ ⟨b7, rfl, rfl⟩
          refine Nx_same sub_st ?_
          have h := nd9 (b7)
          try dsimp only at h
          exact D_at h (by repeat first | exact Sub.nil | refine Sub.cons rfl ?_) sub_st (by kernel_rfl)
        · rintro _ _ ⟨b8, rfl, rfl⟩
          refine Nx_same sub_st ?_
          have h := nd10 (b8)
          try dsimp only at h
          exact D_at h (by repeat first | exact Sub.nil | refine Sub.cons rfl ?_) sub_st (by kernel_rfl)
      have h := nd11 ()
      try dsimp only at h
      exact D_at h (by repeat first | exact Sub.nil | refine Sub.cons rfl ?_) sub_st (by kernel_rfl)
      obtain ⟨A5, c5, P5, A6, c6, P6, b7, b8⟩ := x
      try dsimp only
      refine D_one 8 rfl (E_storew (cs := lgc (0, 0) none 0 0) (ds := lgc a1 A5 K1 c5) rfl rfl rfl rfl (lgc_one _ _ _ _) rfl) ?_ rfl rfl (by kernel_rfl)
      rintro _ _ rfl
      refine Nx_same sub_st ?_
      refine D_one 9 rfl (E_storew (cs := lgc (0, 0) none 0 0) (ds := lgc a2 A6 K2 c6) rfl rfl rfl rfl (lgc_one _ _ _ _) rfl) ?_ rfl rfl (by kernel_rfl)
      rintro _ _ rfl
      refine Nx_same sub_st ?_
      refine D_done ?_ (by kernel_rfl)
      skip
      exact hJ2 (b7, b8, (A5, c5, P5), (A6, c6, P6)) _ _ trivial (Sub.cons rfl (Sub.cons rfl (Sub.cons rfl (Sub.cons rfl (Sub.cons rfl (Sub.cons rfl (Sub.cons rfl Sub.nil))))))) sub_st
    obtain ⟨b7, b8, ⟨A5, c5, P5⟩, ⟨A6, c6, P6⟩⟩ := x
    dsimp only
    have hl5 : P5.1.length = K1 := (em_len P5.2.1).trans hK1
    have hl6 : P6.1.length = K2 := (em_len P6.2.1).trans hK2
    obtain ⟨q, hq⟩ : ∃ q, (decide (a1 = a2) && decide (L1 = L2)) = q := ⟨_, rfl⟩
    have hss : (decide (a1 = a1) && decide (L1 = L1)) = true := by rw [decide_eq_true rfl, decide_eq_true rfl]; rfl
    obtain ⟨lu, hlu⟩ : ∃ u, lastA a1 L1 = u := ⟨_, rfl⟩
    obtain ⟨li, lt⟩ := lu
    have hqq : (q != q) = false := by cases q <;> rfl
    cases hr : rightB a1 L1
    · have hck : chkE a1 L1 top = 220 := by rw [chkE, hr]; rfl
      focus (refine S_seq rfl ?_; refine S_region rfl rfl ?_; refine R_p rfl ?_ rfl rfl; refine R_nil ?_; refine S_seq rfl ?_; refine S_block rfl ?_; refine S_seq rfl ?_; refine S_region rfl rfl ?_; refine R_take (T_loads (ds := lgc a1 A5 K1 c5) rfl rfl rfl rfl rfl) ?_ rfl rfl; (refine R_eff (E_hv0 (f := 16) ⟨_, Try.func16, rfl, by kernel_rfl⟩ (fun w hS => rightD_k w a1 A5 c5 K1 P5.1 L1 hl5 P5.2.1 ((Srd.row (A := A5) (n := K1) (c := c5)).rd w hS) (by omega) false hr) rfl rfl (fun _ => rfl)) ?_ rfl rfl; rintro _ _ ⟨_, rfl, _, rfl⟩); refine R_take (T_not rfl) ?_ rfl rfl; refine R_take (T_decT rfl (by omega)) ?_ rfl rfl; refine R_nil ?_; refine S_true rfl rfl ?_; refine S_region rfl rfl ?_; refine R_p rfl ?_ rfl rfl; refine R_nil ?_; refine RS_blk ?_; refine S_seq rfl ?_)
      refine S_draw ([pt b7 27 (lgc a1 A5 K1 c5), pt b8 27 (lgc a2 A6 K2 c6)]) sub_st (by kernel_rfl) rfl (by kernel_rfl) (by kernel_rfl : _ = 21) ?_
      refine D_take 0 rfl (T_loads (ds := lgc a1 A5 K1 c5) rfl rfl rfl rfl rfl) ?_ rfl rfl (by kernel_rfl) (by kernel_rfl)
      refine D_take 1 rfl (pev_ok rfl) ?_ rfl rfl (by kernel_rfl) (by kernel_rfl)
      refine D_take 3 rfl (pev_ok rfl) ?_ rfl rfl (by kernel_rfl) (by kernel_rfl)
      refine D_one 2 rfl (E_hv0 (f := 23) ⟨_, Try.func23, rfl, by kernel_rfl⟩ (fun w hS => check_k w a1 A5 c5 K1 P5.1 L1 hl5 P5.2.1 ((Srd.row (A := A5) (n := K1) (c := c5)).rd w hS) (by omega) top 220 hck) rfl rfl (fun _ => rfl)) ?_ rfl rfl (by kernel_rfl)
      rintro _ _ ⟨_, rfl, _, rfl⟩
      refine Nx_same sub_st ?_
      refine D_take 4 rfl (T_decF rfl (by omega)) ?_ rfl rfl (by kernel_rfl) (by kernel_rfl)
      refine D_take 5 rfl (pev_ok rfl) ?_ rfl rfl (by kernel_rfl) (by kernel_rfl)
      refine D_take 6 rfl (T_loads (ds := lgc a1 A5 K1 c5) rfl rfl rfl rfl rfl) ?_ rfl rfl (by kernel_rfl) (by kernel_rfl)
      refine D_take 7 rfl (T_loads (ds := lgc a2 A6 K2 c6) rfl rfl rfl rfl rfl) ?_ rfl rfl (by kernel_rfl) (by kernel_rfl)
      refine D_take 9 rfl (T_loads (ds := lgc a1 A5 K1 c5) rfl rfl rfl rfl rfl) ?_ rfl rfl (by kernel_rfl) (by kernel_rfl)
      refine D_take 10 rfl (T_loads (ds := lgc a2 A6 K2 c6) rfl rfl rfl rfl rfl) ?_ rfl rfl (by kernel_rfl) (by kernel_rfl)
      refine D_one 8 rfl (E_hv0 (f := 28) ⟨_, Try.func28, rfl, by kernel_rfl⟩ (fun w hS => same_kr w a1 a2 A5 A6 c5 c6 K1 K2 P5.1 P6.1 L1 L2 hl5 hl6 P5.2.1 P6.2.1 ((Srd.row (A := A5) (n := K1) (c := c5)).rd w hS) ((Srd.row (A := A6) (n := K2) (c := c6)).rd w hS) (fun m hm => dtB_bs (e := 5) (D := P5.1.map emd) hS (by simp) (emd m) (List.mem_map.2 ⟨m, hm, rfl⟩)) (fun m hm => dtB_bs (e := 5) (D := P6.1.map emd) hS (by simp) (emd m) (List.mem_map.2 ⟨m, hm, rfl⟩)) (by omega) (by omega) q hq) rfl rfl (fun _ => rfl)) ?_ rfl rfl (by kernel_rfl)
      rintro _ _ ⟨_, rfl, _, rfl⟩
      refine Nx_same sub_st ?_
      refine D_one 11 rfl (E_hv0 (f := 14) ⟨_, Try.func14, rfl, by kernel_rfl⟩ (fun w hS => sameD_kr w a1 a2 A5 A6 c5 c6 K1 K2 P5.1 P6.1 L1 L2 hl5 hl6 P5.2.1 P6.2.1 ((Srd.row (A := A5) (n := K1) (c := c5)).rd w hS) ((Srd.row (A := A6) (n := K2) (c := c6)).rd w hS) (fun m hm => dtB_bs (e := 5) (D := P5.1.map emd) hS (by simp) (emd m) (List.mem_map.2 ⟨m, hm, rfl⟩)) (fun m hm => dtB_bs (e := 5) (D := P6.1.map emd) hS (by simp) (emd m) (List.mem_map.2 ⟨m, hm, rfl⟩)) (by omega) (by omega) q hq) rfl rfl (fun _ => rfl)) ?_ rfl rfl (by kernel_rfl)
      rintro _ _ ⟨_, rfl, _, rfl⟩
      refine Nx_same sub_st ?_
      refine D_take 12 rfl (T_bnq rfl rfl rfl rfl hqq) ?_ rfl rfl (by kernel_rfl) (by kernel_rfl)
      refine D_take 13 rfl (pev_ok rfl) ?_ rfl rfl (by kernel_rfl) (by kernel_rfl)
      refine D_take 14 rfl (pev_ok rfl) ?_ rfl rfl (by kernel_rfl) (by kernel_rfl)
      refine D_take 15 rfl (T_loads (ds := lgc a1 A5 K1 c5) rfl rfl rfl rfl rfl) ?_ rfl rfl (by kernel_rfl) (by kernel_rfl)
      refine D_take 16 rfl (T_loads (ds := lgc a1 A5 K1 c5) rfl rfl rfl rfl rfl) ?_ rfl rfl (by kernel_rfl) (by kernel_rfl)
      refine D_one 17 rfl (E_hvG (f := 11) ⟨_, Try.func11, rfl, by kernel_rfl⟩ (fun w hS => short_S w a1 A5 c5 P5.1 K1 hl5 ((Srd.row (A := A5) (n := K1) (c := c5)).rd w hS) ((SDt.own (e := 5) (D := P5.1.map emd) (by simp)).rd w hS) P5.2.2 L1 (by rw [P5.2.1]; exact hLL) K1 hK1) rfl rfl) ?_ rfl rfl (by kernel_rfl)
      rintro _ _ ⟨⟨⟨A9, c9⟩, P9⟩, rfl, _, rfl⟩; dsimp only [List.cons_append, List.nil_append]; have hl9 : P9.1.length = K1 := (em_len P9.2.1).trans hK1
      refine Nx_same sub_st ?_
      refine D_one 18 rfl (E_hv0 (f := 28) ⟨_, Try.func28, rfl, by kernel_rfl⟩ (fun w hS => same_kr w a1 a1 A5 A9 c5 c9 K1 K1 P5.1 P9.1 L1 L1 hl5 hl9 P5.2.1 P9.2.1 ((Srd.row (A := A5) (n := K1) (c := c5)).rd w hS) ((Srd.row (A := A9) (n := K1) (c := c9)).rd w hS) (fun m hm => dtB_bs (e := 5) (D := P5.1.map emd) hS (by simp) (emd m) (List.mem_map.2 ⟨m, hm, rfl⟩)) (fun m hm => dtB_bs (e := 5) (D := P9.1.map emd) hS (by simp) (emd m) (List.mem_map.2 ⟨m, hm, rfl⟩)) (by omega) (by omega) true hss) rfl rfl (fun _ => rfl)) ?_ rfl rfl (by kernel_rfl)
      rintro _ _ ⟨_, rfl, _, rfl⟩
      refine Nx_same sub_st ?_
      refine D_take 19 rfl (T_not rfl) ?_ rfl rfl (by kernel_rfl) (by kernel_rfl)
      refine D_take 20 rfl (pev_ok rfl) ?_ rfl rfl (by kernel_rfl) (by kernel_rfl)
      refine D_done ?_ (by kernel_rfl)
      skip
      focus (refine S_false rfl rfl ?_; refine S_skip rfl ?_; refine RS_blk ?_; refine S_region rfl rfl ?_; refine R_take (T_addN rfl rfl (by unfold fits; omega)) ?_ rfl rfl; refine R_p rfl ?_ rfl rfl; refine R_nil ?_)
      exact hJ (j + 1) _ _ (by omega) (Sub.cons rfl (Sub.cons rfl (Sub.cons rfl (Sub.cons rfl (Sub.cons rfl Sub.nil))))) (fun _ h => h.sublist (List.nil_sublist _)) (by omega)
    have hfit := right_fits hr
    rw [hK1] at hfit
    by_cases ht : top < lt
    · have hck : chkE a1 L1 top = 2 := by rw [chkE, hr, hlu]; exact if_pos ht
      focus (refine S_seq rfl ?_; refine S_region rfl rfl ?_; refine R_p rfl ?_ rfl rfl; refine R_nil ?_; refine S_seq rfl ?_; refine S_block rfl ?_; refine S_seq rfl ?_; refine S_region rfl rfl ?_; refine R_take (T_loads (ds := lgc a1 A5 K1 c5) rfl rfl rfl rfl rfl) ?_ rfl rfl; (refine R_eff (E_hv0 (f := 16) ⟨_, Try.func16, rfl, by kernel_rfl⟩ (fun w hS => rightD_k w a1 A5 c5 K1 P5.1 L1 hl5 P5.2.1 ((Srd.row (A := A5) (n := K1) (c := c5)).rd w hS) (by omega) true hr) rfl rfl (fun _ => rfl)) ?_ rfl rfl; rintro _ _ ⟨_, rfl, _, rfl⟩); refine R_take (T_not rfl) ?_ rfl rfl; refine R_p rfl ?_ rfl rfl; refine R_nil ?_; refine S_false rfl rfl ?_; refine S_seq rfl ?_; refine S_region rfl rfl ?_; refine R_take (T_loads (ds := lgc a1 A5 K1 c5) rfl rfl rfl rfl rfl) ?_ rfl rfl; (refine R_eff (E_hv0 (f := 27) ⟨_, Try.func27, rfl, by kernel_rfl⟩ (fun w hS => lastD_any w a1 A5 c5 K1 P5.1 L1 hl5 P5.2.1 ((Srd.row (A := A5) (n := K1) (c := c5)).rd w hS) (by omega) (by omega) (li, lt) hlu) rfl rfl (fun _ => rfl)) ?_ rfl rfl; rintro _ _ ⟨_, rfl, _, rfl⟩); refine R_take (T_fldv (xs := atc (li, lt)) rfl rfl rfl rfl rfl rfl) ?_ rfl rfl; refine R_p rfl ?_ rfl rfl; refine R_take (T_decT rfl (by omega)) ?_ rfl rfl; refine R_take (T_decT rfl (by omega)) ?_ rfl rfl; refine R_nil ?_; refine S_true rfl rfl ?_; refine S_region rfl rfl ?_; refine R_p rfl ?_ rfl rfl; refine R_nil ?_; refine RS_blk ?_; refine S_seq rfl ?_)
      refine S_draw ([pt b7 27 (lgc a1 A5 K1 c5), pt b8 27 (lgc a2 A6 K2 c6)]) sub_st (by kernel_rfl) rfl (by kernel_rfl) (by kernel_rfl : _ = 21) ?_
      refine D_take 0 rfl (T_loads (ds := lgc a1 A5 K1 c5) rfl rfl rfl rfl rfl) ?_ rfl rfl (by kernel_rfl) (by kernel_rfl)
      refine D_take 1 rfl (pev_ok rfl) ?_ rfl rfl (by kernel_rfl) (by kernel_rfl)
      refine D_take 3 rfl (pev_ok rfl) ?_ rfl rfl (by kernel_rfl) (by kernel_rfl)
      refine D_one 2 rfl (E_hv0 (f := 23) ⟨_, Try.func23, rfl, by kernel_rfl⟩ (fun w hS => check_k w a1 A5 c5 K1 P5.1 L1 hl5 P5.2.1 ((Srd.row (A := A5) (n := K1) (c := c5)).rd w hS) (by omega) top 2 hck) rfl rfl (fun _ => rfl)) ?_ rfl rfl (by kernel_rfl)
      rintro _ _ ⟨_, rfl, _, rfl⟩
      refine Nx_same sub_st ?_
      refine D_take 4 rfl (T_decF rfl (by omega)) ?_ rfl rfl (by kernel_rfl) (by kernel_rfl)
      refine D_take 5 rfl (pev_ok rfl) ?_ rfl rfl (by kernel_rfl) (by kernel_rfl)
      refine D_take 6 rfl (T_loads (ds := lgc a1 A5 K1 c5) rfl rfl rfl rfl rfl) ?_ rfl rfl (by kernel_rfl) (by kernel_rfl)
      refine D_take 7 rfl (T_loads (ds := lgc a2 A6 K2 c6) rfl rfl rfl rfl rfl) ?_ rfl rfl (by kernel_rfl) (by kernel_rfl)
      refine D_take 9 rfl (T_loads (ds := lgc a1 A5 K1 c5) rfl rfl rfl rfl rfl) ?_ rfl rfl (by kernel_rfl) (by kernel_rfl)
      refine D_take 10 rfl (T_loads (ds := lgc a2 A6 K2 c6) rfl rfl rfl rfl rfl) ?_ rfl rfl (by kernel_rfl) (by kernel_rfl)
      refine D_one 8 rfl (E_hv0 (f := 28) ⟨_, Try.func28, rfl, by kernel_rfl⟩ (fun w hS => same_kr w a1 a2 A5 A6 c5 c6 K1 K2 P5.1 P6.1 L1 L2 hl5 hl6 P5.2.1 P6.2.1 ((Srd.row (A := A5) (n := K1) (c := c5)).rd w hS) ((Srd.row (A := A6) (n := K2) (c := c6)).rd w hS) (fun m hm => dtB_bs (e := 5) (D := P5.1.map emd) hS (by simp) (emd m) (List.mem_map.2 ⟨m, hm, rfl⟩)) (fun m hm => dtB_bs (e := 5) (D := P6.1.map emd) hS (by simp) (emd m) (List.mem_map.2 ⟨m, hm, rfl⟩)) (by omega) (by omega) q hq) rfl rfl (fun _ => rfl)) ?_ rfl rfl (by kernel_rfl)
      rintro _ _ ⟨_, rfl, _, rfl⟩
      refine Nx_same sub_st ?_
      refine D_one 11 rfl (E_hv0 (f := 14) ⟨_, Try.func14, rfl, by kernel_rfl⟩ (fun w hS => sameD_kr w a1 a2 A5 A6 c5 c6 K1 K2 P5.1 P6.1 L1 L2 hl5 hl6 P5.2.1 P6.2.1 ((Srd.row (A := A5) (n := K1) (c := c5)).rd w hS) ((Srd.row (A := A6) (n := K2) (c := c6)).rd w hS) (fun m hm => dtB_bs (e := 5) (D := P5.1.map emd) hS (by simp) (emd m) (List.mem_map.2 ⟨m, hm, rfl⟩)) (fun m hm => dtB_bs (e := 5) (D := P6.1.map emd) hS (by simp) (emd m) (List.mem_map.2 ⟨m, hm, rfl⟩)) (by omega) (by omega) q hq) rfl rfl (fun _ => rfl)) ?_ rfl rfl (by kernel_rfl)
      rintro _ _ ⟨_, rfl, _, rfl⟩
      refine Nx_same sub_st ?_
      refine D_take 12 rfl (T_bnq rfl rfl rfl rfl hqq) ?_ rfl rfl (by kernel_rfl) (by kernel_rfl)
      refine D_take 13 rfl (pev_ok rfl) ?_ rfl rfl (by kernel_rfl) (by kernel_rfl)
      refine D_take 14 rfl (pev_ok rfl) ?_ rfl rfl (by kernel_rfl) (by kernel_rfl)
      refine D_take 15 rfl (T_loads (ds := lgc a1 A5 K1 c5) rfl rfl rfl rfl rfl) ?_ rfl rfl (by kernel_rfl) (by kernel_rfl)
      refine D_take 16 rfl (T_loads (ds := lgc a1 A5 K1 c5) rfl rfl rfl rfl rfl) ?_ rfl rfl (by kernel_rfl) (by kernel_rfl)
      refine D_one 17 rfl (E_hvG (f := 11) ⟨_, Try.func11, rfl, by kernel_rfl⟩ (fun w hS => short_S w a1 A5 c5 P5.1 K1 hl5 ((Srd.row (A := A5) (n := K1) (c := c5)).rd w hS) ((SDt.own (e := 5) (D := P5.1.map emd) (by simp)).rd w hS) P5.2.2 L1 (by rw [P5.2.1]; exact hLL) K1 hK1) rfl rfl) ?_ rfl rfl (by kernel_rfl)
      rintro _ _ ⟨⟨⟨A9, c9⟩, P9⟩, rfl, _, rfl⟩; dsimp only [List.cons_append, List.nil_append]; have hl9 : P9.1.length = K1 := (em_len P9.2.1).trans hK1
      refine Nx_same sub_st ?_
      refine D_one 18 rfl (E_hv0 (f := 28) ⟨_, Try.func28, rfl, by kernel_rfl⟩ (fun w hS => same_kr w a1 a1 A5 A9 c5 c9 K1 K1 P5.1 P9.1 L1 L1 hl5 hl9 P5.2.1 P9.2.1 ((Srd.row (A := A5) (n := K1) (c := c5)).rd w hS) ((Srd.row (A := A9) (n := K1) (c := c9)).rd w hS) (fun m hm => dtB_bs (e := 5) (D := P5.1.map emd) hS (by simp) (emd m) (List.mem_map.2 ⟨m, hm, rfl⟩)) (fun m hm => dtB_bs (e := 5) (D := P9.1.map emd) hS (by simp) (emd m) (List.mem_map.2 ⟨m, hm, rfl⟩)) (by omega) (by omega) true hss) rfl rfl (fun _ => rfl)) ?_ rfl rfl (by kernel_rfl)
      rintro _ _ ⟨_, rfl, _, rfl⟩
      refine Nx_same sub_st ?_
      refine D_take 19 rfl (T_not rfl) ?_ rfl rfl (by kernel_rfl) (by kernel_rfl)
      refine D_take 20 rfl (pev_ok rfl) ?_ rfl rfl (by kernel_rfl) (by kernel_rfl)
      refine D_done ?_ (by kernel_rfl)
      skip
      focus (refine S_false rfl rfl ?_; refine S_skip rfl ?_; refine RS_blk ?_; refine S_region rfl rfl ?_; refine R_take (T_addN rfl rfl (by unfold fits; omega)) ?_ rfl rfl; refine R_p rfl ?_ rfl rfl; refine R_nil ?_)
      exact hJ (j + 1) _ _ (by omega) (Sub.cons rfl (Sub.cons rfl (Sub.cons rfl (Sub.cons rfl (Sub.cons rfl Sub.nil))))) (fun _ h => h.sublist (List.nil_sublist _)) (by omega)
    · have hck : chkE a1 L1 top = 0 := by rw [chkE, hr, hlu]; exact if_neg ht
      focus (refine S_seq rfl ?_; refine S_region rfl rfl ?_; refine R_p rfl ?_ rfl rfl; refine R_nil ?_; refine S_seq rfl ?_; refine S_block rfl ?_; refine S_seq rfl ?_; refine S_region rfl rfl ?_; refine R_take (T_loads (ds := lgc a1 A5 K1 c5) rfl rfl rfl rfl rfl) ?_ rfl rfl; (refine R_eff (E_hv0 (f := 16) ⟨_, Try.func16, rfl, by kernel_rfl⟩ (fun w hS => rightD_k w a1 A5 c5 K1 P5.1 L1 hl5 P5.2.1 ((Srd.row (A := A5) (n := K1) (c := c5)).rd w hS) (by omega) true hr) rfl rfl (fun _ => rfl)) ?_ rfl rfl; rintro _ _ ⟨_, rfl, _, rfl⟩); refine R_take (T_not rfl) ?_ rfl rfl; refine R_p rfl ?_ rfl rfl; refine R_nil ?_; refine S_false rfl rfl ?_; refine S_seq rfl ?_; refine S_region rfl rfl ?_; refine R_take (T_loads (ds := lgc a1 A5 K1 c5) rfl rfl rfl rfl rfl) ?_ rfl rfl; (refine R_eff (E_hv0 (f := 27) ⟨_, Try.func27, rfl, by kernel_rfl⟩ (fun w hS => lastD_any w a1 A5 c5 K1 P5.1 L1 hl5 P5.2.1 ((Srd.row (A := A5) (n := K1) (c := c5)).rd w hS) (by omega) (by omega) (li, lt) hlu) rfl rfl (fun _ => rfl)) ?_ rfl rfl; rintro _ _ ⟨_, rfl, _, rfl⟩); refine R_take (T_fldv (xs := atc (li, lt)) rfl rfl rfl rfl rfl rfl) ?_ rfl rfl; refine R_p rfl ?_ rfl rfl; refine R_take (T_decF rfl (by omega)) ?_ rfl rfl; refine R_p rfl ?_ rfl rfl; refine R_nil ?_; refine S_false rfl rfl ?_; refine S_skip rfl ?_; refine RS_blk ?_; refine S_seq rfl ?_)
      refine S_draw ([pt b7 27 (lgc a1 A5 K1 c5), pt b8 27 (lgc a2 A6 K2 c6)]) sub_st (by kernel_rfl) rfl (by kernel_rfl) (by kernel_rfl : _ = 21) ?_
      refine D_take 0 rfl (T_loads (ds := lgc a1 A5 K1 c5) rfl rfl rfl rfl rfl) ?_ rfl rfl (by kernel_rfl) (by kernel_rfl)
      refine D_take 1 rfl (pev_ok rfl) ?_ rfl rfl (by kernel_rfl) (by kernel_rfl)
      refine D_take 3 rfl (pev_ok rfl) ?_ rfl rfl (by kernel_rfl) (by kernel_rfl)
      refine D_one 2 rfl (E_hv0 (f := 23) ⟨_, Try.func23, rfl, by kernel_rfl⟩ (fun w hS => check_k w a1 A5 c5 K1 P5.1 L1 hl5 P5.2.1 ((Srd.row (A := A5) (n := K1) (c := c5)).rd w hS) (by omega) top 0 hck) rfl rfl (fun _ => rfl)) ?_ rfl rfl (by kernel_rfl)
      rintro _ _ ⟨_, rfl, _, rfl⟩
      refine Nx_same sub_st ?_
      refine D_take 4 rfl (T_decF rfl (by omega)) ?_ rfl rfl (by kernel_rfl) (by kernel_rfl)
      refine D_take 5 rfl (pev_ok rfl) ?_ rfl rfl (by kernel_rfl) (by kernel_rfl)
      refine D_take 6 rfl (T_loads (ds := lgc a1 A5 K1 c5) rfl rfl rfl rfl rfl) ?_ rfl rfl (by kernel_rfl) (by kernel_rfl)
      refine D_take 7 rfl (T_loads (ds := lgc a2 A6 K2 c6) rfl rfl rfl rfl rfl) ?_ rfl rfl (by kernel_rfl) (by kernel_rfl)
      refine D_take 9 rfl (T_loads (ds := lgc a1 A5 K1 c5) rfl rfl rfl rfl rfl) ?_ rfl rfl (by kernel_rfl) (by kernel_rfl)
      refine D_take 10 rfl (T_loads (ds := lgc a2 A6 K2 c6) rfl rfl rfl rfl rfl) ?_ rfl rfl (by kernel_rfl) (by kernel_rfl)
      refine D_one 8 rfl (E_hv0 (f := 28) ⟨_, Try.func28, rfl, by kernel_rfl⟩ (fun w hS => same_kr w a1 a2 A5 A6 c5 c6 K1 K2 P5.1 P6.1 L1 L2 hl5 hl6 P5.2.1 P6.2.1 ((Srd.row (A := A5) (n := K1) (c := c5)).rd w hS) ((Srd.row (A := A6) (n := K2) (c := c6)).rd w hS) (fun m hm => dtB_bs (e := 5) (D := P5.1.map emd) hS (by simp) (emd m) (List.mem_map.2 ⟨m, hm, rfl⟩)) (fun m hm => dtB_bs (e := 5) (D := P6.1.map emd) hS (by simp) (emd m) (List.mem_map.2 ⟨m, hm, rfl⟩)) (by omega) (by omega) q hq) rfl rfl (fun _ => rfl)) ?_ rfl rfl (by kernel_rfl)
      rintro _ _ ⟨_, rfl, _, rfl⟩
      refine Nx_same sub_st ?_
      refine D_one 11 rfl (E_hv0 (f := 14) ⟨_, Try.func14, rfl, by kernel_rfl⟩ (fun w hS => sameD_kr w a1 a2 A5 A6 c5 c6 K1 K2 P5.1 P6.1 L1 L2 hl5 hl6 P5.2.1 P6.2.1 ((Srd.row (A := A5) (n := K1) (c := c5)).rd w hS) ((Srd.row (A := A6) (n := K2) (c := c6)).rd w hS) (fun m hm => dtB_bs (e := 5) (D := P5.1.map emd) hS (by simp) (emd m) (List.mem_map.2 ⟨m, hm, rfl⟩)) (fun m hm => dtB_bs (e := 5) (D := P6.1.map emd) hS (by simp) (emd m) (List.mem_map.2 ⟨m, hm, rfl⟩)) (by omega) (by omega) q hq) rfl rfl (fun _ => rfl)) ?_ rfl rfl (by kernel_rfl)
      rintro _ _ ⟨_, rfl, _, rfl⟩
      refine Nx_same sub_st ?_
      refine D_take 12 rfl (T_bnq rfl rfl rfl rfl hqq) ?_ rfl rfl (by kernel_rfl) (by kernel_rfl)
      refine D_take 13 rfl (pev_ok rfl) ?_ rfl rfl (by kernel_rfl) (by kernel_rfl)
      refine D_take 14 rfl (pev_ok rfl) ?_ rfl rfl (by kernel_rfl) (by kernel_rfl)
      refine D_take 15 rfl (T_loads (ds := lgc a1 A5 K1 c5) rfl rfl rfl rfl rfl) ?_ rfl rfl (by kernel_rfl) (by kernel_rfl)
      refine D_take 16 rfl (T_loads (ds := lgc a1 A5 K1 c5) rfl rfl rfl rfl rfl) ?_ rfl rfl (by kernel_rfl) (by kernel_rfl)
      refine D_one 17 rfl (E_hvG (f := 11) ⟨_, Try.func11, rfl, by kernel_rfl⟩ (fun w hS => short_S w a1 A5 c5 P5.1 K1 hl5 ((Srd.row (A := A5) (n := K1) (c := c5)).rd w hS) ((SDt.own (e := 5) (D := P5.1.map emd) (by simp)).rd w hS) P5.2.2 L1 (by rw [P5.2.1]; exact hLL) K1 hK1) rfl rfl) ?_ rfl rfl (by kernel_rfl)
      rintro _ _ ⟨⟨⟨A9, c9⟩, P9⟩, rfl, _, rfl⟩; dsimp only [List.cons_append, List.nil_append]; have hl9 : P9.1.length = K1 := (em_len P9.2.1).trans hK1
      refine Nx_same sub_st ?_
      refine D_one 18 rfl (E_hv0 (f := 28) ⟨_, Try.func28, rfl, by kernel_rfl⟩ (fun w hS => same_kr w a1 a1 A5 A9 c5 c9 K1 K1 P5.1 P9.1 L1 L1 hl5 hl9 P5.2.1 P9.2.1 ((Srd.row (A := A5) (n := K1) (c := c5)).rd w hS) ((Srd.row (A := A9) (n := K1) (c := c9)).rd w hS) (fun m hm => dtB_bs (e := 5) (D := P5.1.map emd) hS (by simp) (emd m) (List.mem_map.2 ⟨m, hm, rfl⟩)) (fun m hm => dtB_bs (e := 5) (D := P9.1.map emd) hS (by simp) (emd m) (List.mem_map.2 ⟨m, hm, rfl⟩)) (by omega) (by omega) true hss) rfl rfl (fun _ => rfl)) ?_ rfl rfl (by kernel_rfl)
      rintro _ _ ⟨_, rfl, _, rfl⟩
      refine Nx_same sub_st ?_
      refine D_take 19 rfl (T_not rfl) ?_ rfl rfl (by kernel_rfl) (by kernel_rfl)
      refine D_take 20 rfl (pev_ok rfl) ?_ rfl rfl (by kernel_rfl) (by kernel_rfl)
      refine D_done ?_ (by kernel_rfl)
      skip
      focus (refine S_false rfl rfl ?_; refine S_skip rfl ?_; refine RS_blk ?_; refine S_region rfl rfl ?_; refine R_take (T_addN rfl rfl (by unfold fits; omega)) ?_ rfl rfl; refine R_p rfl ?_ rfl rfl; refine R_nil ?_)
      exact hJ (j + 1) _ _ (by omega) (Sub.cons rfl (Sub.cons rfl (Sub.cons rfl (Sub.cons rfl (Sub.cons rfl Sub.nil))))) (fun _ h => h.sublist (List.nil_sublist _)) (by omega)
  · focus (refine S_seq rfl ?_; refine S_region rfl rfl ?_; refine R_take (T_decF rfl (by omega)) ?_ rfl rfl; refine R_nil ?_; refine S_seq rfl ?_; refine S_false rfl rfl ?_; refine S_exit rfl rfl ?_; refine S_seq rfl ?_; refine S_region rfl rfl ?_; refine R_p rfl ?_ rfl rfl; refine R_nil ?_)
    exact hB _ _ _ _ _ rfl rfl fun w' hS => ⟨(), rfl, trivial, hS.sublist (List.nil_sublist _)⟩
set_option maxRecDepth 100000 in
theorem open_logs {H : Type} {enc : TypeId × Value → H} {W : World} {r : Reach} {base : Nat} {v : Value} {d : DataW H} {p : List MemPlace} (hv : Value.okWide Try.prog W r base 66 v) (h : DataW.Trod enc Try.prog W 0 (fun _ => true) true 66 v d p) :
    ∃ (A : Option Addr) (c : Nat) (Z : List Lm), v = .slice A Z.length c ∧ Rd W All 3 A Z.length (cellsL lmc Z) ∧ (∀ q ∈ Z, LmR W q) ∧ Z.length ≤ maxLen := by
  obtain ⟨a0, len0, cap0, rfl⟩ := okWide_slice Try.underlying66 hv
  obtain ⟨A, n, c, xs, hcs, h1, h2, h3, h4⟩ := (Op_.of_trod h).slice Try.underlying66 (size := 3) (by kernel_rfl)
  simp [Value.cells] at hcs
  obtain ⟨rfl, rfl, rfl⟩ := hcs
  obtain ⟨Z, hZ, rfl, hall⟩ := rows_of (n := 0) (size := 3) (f := lmc) lmc_len (fun q : Lm => LmR W q) _ _ h3.1 fun i hi => by
    obtain ⟨a, A, c, Q, hc, k1, k2, _, k3, _⟩ := op_log (h4 i hi)
    exact ⟨(a, A, c, Q), hc, k1, k2, fun m hm => (k3 m hm).1⟩
  subst hZ
  exact ⟨_, _, Z, rfl, h3, hall, by omega⟩
set_option maxRecDepth 100000 in
theorem LogChecks_open {H : Type} {enc : TypeId × Value → H} (W : World) {r : Reach} (base : Nat) (v0 v1 : Value) {d0 d1 : DataW H} {p0 p1 : List MemPlace}
    (hv0 : Value.okWide Try.prog W r base 66 v0) (hv1 : Value.okWide Try.prog W r base 22 v1)
    (h0 : DataW.Trod enc Try.prog W 0 (fun _ => true) true 66 v0 d0 p0) (h1 : DataW.Trod enc Try.prog W 0 (fun _ => true) true 22 v1 d1 p1) :
    Calls Try.prog 7 #[v0, v1] W fun e w' => e = .returned (.bool true) ∧ Kp All W w' := by
  obtain ⟨A, c, Z, rfl, g1, g2, g3⟩ := open_logs hv0 h0
  obtain ⟨z, rfl⟩ := okWide_int Try.underlying22 hv1
  obtain ⟨k, hk, hk2⟩ := open_u64 h1
  obtain rfl : z = (k : Int) := hk
  exact (checks_any W A c Z g1 g2 g3 k).pure12
end Go.Proofs.Ytkdpfnaaopimoaa
