/- Conf; the document's From and Conf. -/
import Derived.Test.YtkdpfnaaopimoaaLgP
namespace Go.Proofs.Ytkdpfnaaopimoaa
open Go.RowKit
open Asn (pt row rb)
set_option linter.unusedVariables false
set_option linter.unusedSimpArgs false
--@use N

/-- is the n-th entry an EntConf at or below an index? -/
def cfT (a : At) (l : List En) (idx n : Nat) : Bool := decide (0 < n) && decide (a.1 + n ≤ idx) && decide ((l.getD (n - 1) default).2.1 = 3)
/-- the last such one up to the m-th, or 0 -/
def cfN (a : At) (l : List En) (idx : Nat) : Nat → Nat
  | 0 => 0
  | m + 1 => if cfT a l idx (m + 1) = true then m + 1 else cfN a l idx m
def confR (a : At) (l : List En) (idx : Nat) : Nat × List UInt8 × Bool :=
  if rightB a l = true then (if cfN a l idx l.length = 0 then (0, [], false) else (a.1 + cfN a l idx l.length, (l.getD (cfN a l idx l.length - 1) default).2.2, true)) else (0, [], false)
theorem cfN_le (a : At) (l : List En) (idx : Nat) : ∀ m, cfN a l idx m ≤ m
  | 0 => Nat.le_refl _
  | m + 1 => by
    unfold cfN
    have := cfN_le a l idx m
    split <;> omega
theorem cfN_hit {a : At} {l : List En} {idx n : Nat} (h : cfT a l idx n = true) : ∀ m, n ≤ m → (∀ q, n < q → q ≤ m → cfT a l idx q = false) → cfN a l idx m = n
  | 0, h0, _ => by
    have : n = 0 := by omega
    subst this
    rfl
  | m + 1, h0, hno => by
    unfold cfN
    by_cases he : n = m + 1
    · rw [← he, h, if_pos rfl]
    · rw [hno (m + 1) (by omega) (Nat.le_refl _), if_neg Bool.false_ne_true]
      exact cfN_hit h m (by omega) fun q h1 h2 => hno q h1 (by omega)
theorem cfN_none {a : At} {l : List En} {idx : Nat} : ∀ m, (∀ q, 0 < q → q ≤ m → cfT a l idx q = false) → cfN a l idx m = 0
  | 0, _ => rfl
  | m + 1, hno => by
    unfold cfN
    rw [hno (m + 1) (by omega) (Nat.le_refl _), if_neg Bool.false_ne_true]
    exact cfN_none m fun q h1 h2 => hno q h1 (by omega)
theorem T_slbE {P : Program} {n : Nat} {w0 : World} {M : Nat → Prop} {T : Slots} {H : List Asn} {dd : Option Tmp} {tt : TypeId} {pos : String} {af : Array Edge} {g : Option (Nat × Bool)} [HasTab P] {sz : Nat} {x y z : Operand} {s e : TypeId} {A : Option Addr} {m c q r u : Nat} {z1 z2 : Int} {kk kj : IntKind} {i ei : Ti} (hu : r - q = u) (hx : oget T x = some (.slice A m c)) (hy : oget T y = some (.int kk z1)) (hz : oget T z = some (.int kj z2)) [h1 : NatOf z1 q] [h2 : NatOf z2 r] (hs : ty P s = some i) (hi : i.desc = .slice e) (he : ty P e = some ei) (hsz : ei.size = sz) (hq : q ≤ r) (hc : r ≤ c) :
    Tk P n w0 M T H ⟨dd, .slice s x (some y) (some z) none, tt, pos, af, g⟩ (.slice (cutP A c q sz) u (c - q)) := by
  subst hsz
  subst hu
  rw [h1.is] at hy
  rw [h2.is] at hz
  exact T_slb hx hy hz hs hi he hq hc
set_option maxRecDepth 100000 in
set_option maxHeartbeats 4000000 in
theorem confP_any (w : World) (a : At) (A : Option Addr) (c k : Nat) (Q : List Em) (l : List En) (hk : Q.length = k) (hl : Q.map emv = l) (h : Rd w All 3 A k (cellsL emc Q)) (hd : RDt w All (Q.map emd)) (hn : k ≤ 1000) (hkk : ∀ m ∈ Q, m.2.2.2.2.length ≤ 100000) (idx : Nat) (ri : Nat) (rbs : List UInt8) (rq : Bool) (N : Nat) (hN : rbs.length = N) (hs : confR a l idx = (ri, rbs, rq)) :
    Gives Try.prog 30 [.agg (lgc a A k c).toArray, .int .u64 (idx : Int)] [] w (X := Option Addr × Nat) (fun x => .tuple #[.int .u64 (ri : Int), .slice x.1 N x.2, .bool rq]) (fun _ => True) (fun x => [row 5 1 x.1 N x.2 (rbs.map bv)]) := by
  refine gives_M Try.func30 rfl Try.ntmps30 Try.results30 (by simp) (St.enter w) (fun B hB0 hB => ?_)
  obtain ⟨i, t⟩ := a
  have hll : l.length = k := by rw [← hl, List.length_map, hk]
  obtain ⟨r0, hr0⟩ : ∃ q, rightB (i, t) l = q := ⟨_, rfl⟩
  cases r0
  · rw [confR, hr0, if_neg Bool.false_ne_true] at hs
    injection hs with e1 e2
    injection e2 with e2 e3
    subst e1 e2 e3 hN
    focus (refine S_seq rfl ?_; refine S_region rfl rfl ?_; (refine R_eff (E_boxa (cs := lgc (i, t) A k c) rfl) ?_ rfl rfl; rintro _ _ ⟨b2, rfl, rfl⟩); (refine R_eff (E_box1 (v := .int .u64 (idx : Int)) rfl rfl) ?_ rfl rfl; rintro _ _ ⟨b3, rfl, rfl⟩); refine R_p rfl ?_ rfl rfl; refine R_p rfl ?_ rfl rfl; refine R_p rfl ?_ rfl rfl; refine R_nil ?_; refine S_seq rfl ?_; refine S_seq rfl ?_; refine S_region rfl rfl ?_; refine R_take (T_loads (ds := lgc (i, t) A k c) rfl rfl rfl rfl rfl) ?_ rfl rfl; ((refine R_eff (E_hv0 (f := 40) ⟨_, Try.func40, rfl, by kernel_rfl⟩ (fun w hS => right_k w (i, t) A c k Q l hk hl ((Srd.old h (fun k _ => noOwns k)).rd w hS) (by omega) _ hr0) rfl rfl (fun _ => rfl)) ?_ rfl rfl; rintro _ _ ⟨_, rfl, _, rfl⟩)); refine R_take (T_not rfl) ?_ rfl rfl; refine R_nil ?_; refine S_true rfl rfl ?_; refine S_seq rfl ?_; refine S_region rfl rfl ?_; refine R_p rfl ?_ rfl rfl; refine R_p rfl ?_ rfl rfl; refine R_p rfl ?_ rfl rfl; refine R_nil ?_)
    exact hB0 _ _ _ _ _ rfl (.tmp rfl (.tmp rfl (.tmp rfl .nil))) fun w' hS => ⟨(none, 0), rfl, trivial, (hS.sublist (List.nil_sublist _)).nilrow _ _⟩
  have hff := right_fits hr0
  rw [hll] at hff
  have hff : k ≤ 16 ∧ i + k ≤ 18446744073709551614 := hff
  have hfit : (i, t).1 + k ≤ 18446744073709551615 := by show i + k ≤ _; omega
  rw [confR, hr0, if_pos rfl, hll] at hs
  focus (refine S_seq rfl ?_; refine S_region rfl rfl ?_; (refine R_eff (E_boxa (cs := lgc (i, t) A k c) rfl) ?_ rfl rfl; rintro _ _ ⟨b2, rfl, rfl⟩); (refine R_eff (E_box1 (v := .int .u64 (idx : Int)) rfl rfl) ?_ rfl rfl; rintro _ _ ⟨b3, rfl, rfl⟩); refine R_p rfl ?_ rfl rfl; refine R_p rfl ?_ rfl rfl; refine R_p rfl ?_ rfl rfl; refine R_nil ?_; refine S_seq rfl ?_; refine S_seq rfl ?_; refine S_region rfl rfl ?_; refine R_take (T_loads (ds := lgc (i, t) A k c) rfl rfl rfl rfl rfl) ?_ rfl rfl; ((refine R_eff (E_hv0 (f := 40) ⟨_, Try.func40, rfl, by kernel_rfl⟩ (fun w hS => right_k w (i, t) A c k Q l hk hl ((Srd.old h (fun k _ => noOwns k)).rd w hS) (by omega) _ hr0) rfl rfl (fun _ => rfl)) ?_ rfl rfl; rintro _ _ ⟨_, rfl, _, rfl⟩)); refine R_take (T_not rfl) ?_ rfl rfl; refine R_nil ?_; refine S_false rfl rfl ?_; refine S_skip rfl ?_; refine S_seq rfl ?_; refine S_region rfl rfl ?_; (refine R_eff (E_alloc1 (v := .int .i64 0) rfl rfl rfl) ?_ rfl rfl; rintro _ _ ⟨b7, rfl, rfl⟩); (refine R_eff (E_alloc1 (v := .int .u64 0) rfl rfl rfl) ?_ rfl rfl; rintro _ _ ⟨b8, rfl, rfl⟩); (refine R_eff0 (E_store1 rfl rfl rfl rfl rfl rfl (by first | (simp; done) | (simp; omega) | decide)) ?_ rfl; rintro _ _ rfl); (refine R_eff0 (E_store1 rfl rfl rfl rfl rfl rfl (by first | (simp; done) | (simp; omega) | decide)) ?_ rfl; rintro _ _ rfl); refine R_nil ?_; refine S_seq rfl ?_; refine S_seq rfl ?_; refine S_region rfl rfl ?_; refine R_take (T_loads (ds := lgc (i, t) A k c) rfl rfl rfl rfl rfl) ?_ rfl rfl; (refine R_eff (E_hv1 (f := 54) ⟨_, Try.func54, rfl, by kernel_rfl⟩ (fun w hS => places_any w (i, t) A k c) rfl rfl (fun _ => rfl)) ?_ rfl rfl; rintro _ _ ⟨bI, rfl, _, rfl⟩); refine R_nil ?_; refine S_block rfl ?_)
  refine S_range (F := fun k => k < w.heap.size ∨ k = bI) (es := plcs (i, t) l) (ps := [16, 17]) (X := Int × Nat) (fun x => [pt b7 3 [.int .i64 x.1], pt b8 22 [.int .u64 (x.2 : Int)]]) (fun j x => x.1 = (cfN (i, t) l idx (j - 1) : Int) - 1 ∧ (0 < cfN (i, t) l idx (j - 1) → x.2 = i + cfN (i, t) l idx (j - 1))) (fun j x => False) (-1, 0) [pt bI 27 (lgc (i, t) A k c), pt b3 22 [.int .u64 (idx : Int)], pt b2 27 (lgc (i, t) A k c)] rfl rfl ⟨_, Try.func57, rfl, by kernel_rfl⟩ (by kernel_rfl) (fun e he => ?_) ⟨rfl, fun h0 => absurd h0 (Nat.lt_irrefl 0)⟩ (fun w' hS => ?_) (fun w' hS => ?_) (fun w' hS => reads_ok (b := bI) (Hk := [pt bI 27 (lgc (i, t) A k c), pt b3 22 [.int .u64 (idx : Int)], pt b2 27 (lgc (i, t) A k c)]) hS) (fun j x w' hx hj hS => ?_) (fun y D hy => ?_) (fun y D j hj hy => absurd hy id)
  · obtain ⟨j, _, rfl⟩ := List.mem_map.1 he
    rfl
  · simp only [Nat.add_zero, List.set_cons_zero] at hS
    exact sub_st (H' := [pt b7 3 [.int .i64 (-1)], pt b8 22 [.int .u64 0], pt bI 27 (lgc (i, t) A k c), pt b3 22 [.int .u64 (idx : Int)], pt b2 27 (lgc (i, t) A k c)]) w' hS
  · have h1 : Rd w All 3 A Q.length (cellsL emc Q) := by rw [hk]; exact h
    have hb : Rd w' (fun k => k < w.heap.size ∨ k = bI) 1 (some ⟨bI, 0, none⟩) 3 (lgc (i, t) A k c) := rd_blk (b := bI) hS rfl (.inr rfl)
    rw [← hk] at hb
    rw [← hl]
    exact places_iter w' _ bI (i, t) A c Q hb (rd_old h1 (by decide) (fun k => noOwns k) hS (fun k hk => .inl hk)) (by omega) (by rw [hk]; exact hfit)
  · rw [plcs_len, hll] at hj
    obtain ⟨x1, x2⟩ := x
    obtain ⟨hx1, hx2⟩ := hx
    dsimp only at hx1 hx2
    rw [plcs_at _ _ _ (by omega)]
    have hpf := placeN_fst (i, t) l j
    obtain ⟨⟨pi, pu⟩, hp⟩ : ∃ p, placeN (i, t) l j = p := ⟨_, rfl⟩
    rw [hp] at hpf ⊢
    have hpf : pi = i + j := hpf
    subst hpf
    intro l2 rA rB B0 B1 J hfull hbeg hend hret
    have hC3 := rd_kept (b := b3) hfull rfl
    have hC2 := rd_kept (b := b2) hfull rfl
    have hC4 := rd_rest h (by decide) (fun k => noOwns k) hfull
    focus (refine S_seq rfl ?_; refine S_region rfl rfl ?_; refine R_p rfl ?_ rfl rfl; refine R_nil ?_; refine S_region rfl rfl ?_; (refine R_eff (E_alloca rfl at_zero) ?_ rfl rfl; rintro _ _ ⟨b10, rfl, rfl⟩); (refine R_eff0 (E_storew (cs := atc (0, 0)) (ds := atc (i + j, pu)) rfl rfl rfl rfl (atc_one _) rfl) ?_ rfl; rintro _ _ rfl); refine R_nil ?_)
    refine hbeg _ [pt b10 24 (atc (i + j, pu)), pt b7 3 [.int .i64 x1], pt b8 22 [.int .u64 (x2 : Int)]] _ ?_ sub_st
    by_cases hj0 : j = 0
    · subst hj0
      focus (refine S_block rfl ?_; refine S_seq rfl ?_; refine S_region rfl rfl ?_; refine R_p rfl ?_ rfl rfl; refine R_take (T_decF rfl (by omega)) ?_ rfl rfl; refine R_p rfl ?_ rfl rfl; refine R_skip ?_ rfl rfl; refine R_skip ?_ rfl rfl; refine R_skip ?_ rfl rfl; refine R_skip ?_ rfl rfl; refine R_p rfl ?_ rfl rfl; refine R_p rfl ?_ rfl rfl; refine R_skip ?_ rfl rfl; refine R_skip ?_ rfl rfl; refine R_skip ?_ rfl rfl; refine R_skip ?_ rfl rfl; refine R_skip ?_ rfl rfl; refine R_skip ?_ rfl rfl; refine R_skip ?_ rfl rfl; refine R_skip ?_ rfl rfl; refine R_p rfl ?_ rfl rfl; refine R_nil ?_; refine S_false rfl rfl ?_; refine S_skip rfl ?_; refine RS_blk ?_)
      exact hend (x1, x2) _ _ ⟨hx1, hx2⟩ sub_st
    have hjj : j + 1 - 1 = (j - 1) + 1 := by omega
    by_cases hji : i + j ≤ idx
    · have hne : A ≠ none := by obtain ⟨ad, rfl, _⟩ := h.2 (by omega); simp
      have hat := cellsL_at (f := emc) emc_len Q default (j - 1) (by omega)
      have hlk : j - 1 < k := by omega
      obtain ⟨m, hm⟩ : ∃ m, Q.getD (j - 1) default = m := ⟨_, rfl⟩
      rw [hm] at hat
      have hat1 : (cellsL emc Q)[(j - 1) * 3 + 1]? = some (.int .i64 m.2.1) := hat 1 _ rfl
      have hlm : l.getD (j - 1) default = emv m := by rw [← hl, ← hm]; simp [List.getD, show j - 1 < Q.length by omega]
      have hT : cfT (i, t) l idx j = decide (m.2.1 = 3) := by
        unfold cfT
        rw [hlm, decide_eq_true (show 0 < j by omega), decide_eq_true (show (i, t).1 + j ≤ idx from hji)]
        rfl
      obtain ⟨kd, hkd⟩ : ∃ z, m.2.1 = z := ⟨_, rfl⟩
      rw [hkd] at hat1 hT
      by_cases hk3 : kd = 3
      · rw [decide_eq_true hk3] at hT
        focus (refine S_block rfl ?_; refine S_seq rfl ?_; refine S_region rfl rfl ?_; refine R_p rfl ?_ rfl rfl; refine R_take (T_decT rfl (by omega)) ?_ rfl rfl; refine R_p rfl ?_ rfl rfl; refine R_p rfl ?_ rfl rfl; refine R_take (T_load rfl rfl rfl rfl) ?_ rfl rfl; refine R_take (T_loadg rfl rfl rfl hC3 (fun k hk => hk) rfl) ?_ rfl rfl; refine R_take (T_decT rfl (by omega)) ?_ rfl rfl; refine R_p rfl ?_ rfl rfl; refine R_p rfl ?_ rfl rfl; refine R_p rfl ?_ rfl rfl; refine R_take (T_loadg (v := .slice A k c) rfl rfl rfl hC2 (fun k hk => hk) rfl) ?_ rfl rfl; refine R_p rfl ?_ rfl rfl; refine R_take (T_subN rfl rfl (by omega) (by unfold fits; omega)) ?_ rfl rfl; refine R_take (T_ixM (sz := 3) (q := j - 1) rfl rfl rfl rfl rfl rfl hne hlk) ?_ rfl rfl; refine R_take (T_fap rfl rfl rfl rfl rfl hne) ?_ rfl rfl; refine R_take (T_ldr rfl rfl rfl (Srd.old hC4 (fun k hk => hk)) (by omega) hat1) ?_ rfl rfl; refine R_take (T_decT rfl (by omega)) ?_ rfl rfl; refine R_p rfl ?_ rfl rfl; refine R_nil ?_; refine S_true rfl rfl ?_)
        refine S_drawR ([pt b10 24 (atc (i + j, pu))]) sub_st (by kernel_rfl) rfl (by kernel_rfl) (by kernel_rfl) (by kernel_rfl : _ = 6) ?_
        refine D_take 0 rfl (pev_ok rfl) ?_ rfl rfl (by kernel_rfl) (by kernel_rfl)
        (refine D_take 1 rfl (T_subN rfl rfl (by omega) (by unfold fits; omega)) ?_ rfl rfl (by kernel_rfl) (by kernel_rfl))
        refine D_take 2 rfl (pev_ok rfl) ?_ rfl rfl (by kernel_rfl) (by kernel_rfl)
        refine D_take 3 rfl (T_load rfl rfl rfl rfl) ?_ rfl rfl (by kernel_rfl) (by kernel_rfl)
        refine D_one 4 rfl (E_store1 rfl rfl rfl rfl rfl rfl (by first | (simp; done) | (simp; omega) | decide)) ?_ rfl rfl (by kernel_rfl)
        rintro _ _ rfl
        refine Nx_same sub_st ?_
        refine D_one 5 rfl (E_store1 rfl rfl rfl rfl rfl rfl (by first | (simp; done) | (simp; omega) | decide)) ?_ rfl rfl (by kernel_rfl)
        rintro _ _ rfl
        refine Nx_same sub_st ?_
        refine D_done ?_ (by kernel_rfl)
        skip
        focus (refine RS_blk ?_)
        have e1 : cfN (i, t) l idx (j + 1 - 1) = j := by rw [hjj, cfN, show j - 1 + 1 = j by omega, hT, if_pos rfl]
        refine hend (((j - 1 : Nat) : Int), i + j) _ _ ⟨by rw [e1]; dsimp only; omega, fun _ => by rw [e1]⟩ fun w' hS => ?_
        simp only [Nat.add_zero, List.set_cons_zero] at hS
        exact sub_st w' hS
      · rw [decide_eq_false hk3] at hT
        focus (refine S_block rfl ?_; refine S_seq rfl ?_; refine S_region rfl rfl ?_; refine R_p rfl ?_ rfl rfl; refine R_take (T_decT rfl (by omega)) ?_ rfl rfl; refine R_p rfl ?_ rfl rfl; refine R_p rfl ?_ rfl rfl; refine R_take (T_load rfl rfl rfl rfl) ?_ rfl rfl; refine R_take (T_loadg rfl rfl rfl hC3 (fun k hk => hk) rfl) ?_ rfl rfl; refine R_take (T_decT rfl (by omega)) ?_ rfl rfl; refine R_p rfl ?_ rfl rfl; refine R_p rfl ?_ rfl rfl; refine R_p rfl ?_ rfl rfl; refine R_take (T_loadg (v := .slice A k c) rfl rfl rfl hC2 (fun k hk => hk) rfl) ?_ rfl rfl; refine R_p rfl ?_ rfl rfl; refine R_take (T_subN rfl rfl (by omega) (by unfold fits; omega)) ?_ rfl rfl; refine R_take (T_ixM (sz := 3) (q := j - 1) rfl rfl rfl rfl rfl rfl hne hlk) ?_ rfl rfl; refine R_take (T_fap rfl rfl rfl rfl rfl hne) ?_ rfl rfl; refine R_take (T_ldr rfl rfl rfl (Srd.old hC4 (fun k hk => hk)) (by omega) hat1) ?_ rfl rfl; refine R_take (T_decF rfl (by omega)) ?_ rfl rfl; refine R_p rfl ?_ rfl rfl; refine R_nil ?_; refine S_false rfl rfl ?_; refine S_skip rfl ?_; refine RS_blk ?_)
        have e1 : cfN (i, t) l idx (j + 1 - 1) = cfN (i, t) l idx (j - 1) := by rw [hjj, cfN, show j - 1 + 1 = j by omega, hT, if_neg Bool.false_ne_true]
        exact hend (x1, x2) _ _ ⟨by rw [e1]; exact hx1, fun h0 => by rw [e1] at h0 ⊢; exact hx2 h0⟩ sub_st
    · have hT : cfT (i, t) l idx j = false := by
        unfold cfT
        rw [decide_eq_false (show ¬ (i, t).1 + j ≤ idx from hji), Bool.and_false, Bool.false_and]
      focus (refine S_block rfl ?_; refine S_seq rfl ?_; refine S_region rfl rfl ?_; refine R_p rfl ?_ rfl rfl; refine R_take (T_decT rfl (by omega)) ?_ rfl rfl; refine R_p rfl ?_ rfl rfl; refine R_p rfl ?_ rfl rfl; refine R_take (T_load rfl rfl rfl rfl) ?_ rfl rfl; refine R_take (T_loadg rfl rfl rfl hC3 (fun k hk => hk) rfl) ?_ rfl rfl; refine R_take (T_decF rfl (by omega)) ?_ rfl rfl; refine R_p rfl ?_ rfl rfl; refine R_p rfl ?_ rfl rfl; refine R_skip ?_ rfl rfl; refine R_skip ?_ rfl rfl; refine R_skip ?_ rfl rfl; refine R_skip ?_ rfl rfl; refine R_skip ?_ rfl rfl; refine R_skip ?_ rfl rfl; refine R_skip ?_ rfl rfl; refine R_skip ?_ rfl rfl; refine R_p rfl ?_ rfl rfl; refine R_nil ?_; refine S_false rfl rfl ?_; refine S_skip rfl ?_; refine RS_blk ?_)
      have e1 : cfN (i, t) l idx (j + 1 - 1) = cfN (i, t) l idx (j - 1) := by rw [hjj, cfN, show j - 1 + 1 = j by omega, hT, if_neg Bool.false_ne_true]
      exact hend (x1, x2) _ _ ⟨by rw [e1]; exact hx1, fun h0 => by rw [e1] at h0 ⊢; exact hx2 h0⟩ sub_st
  · rw [plcs_len, hll, Nat.add_sub_cancel] at hy
    obtain ⟨x1, x2⟩ := y
    obtain ⟨hx1, hx2⟩ := hy
    dsimp only at hx1 hx2
    simp only [List.cons_append, List.nil_append]
    have hle := cfN_le (i, t) l idx k
    obtain ⟨n, hn2⟩ : ∃ n, cfN (i, t) l idx k = n := ⟨_, rfl⟩
    rw [hn2] at hs hx1 hx2 hle
    by_cases hn0 : n = 0
    · rw [if_pos hn0] at hs
      injection hs with e1 e2
      injection e2 with e2 e3
      subst e1 e2 e3 hN
      focus (refine RS_blk ?_; refine S_seq rfl ?_; refine S_seq rfl ?_; refine S_region rfl rfl ?_; refine R_take (T_load rfl rfl rfl rfl) ?_ rfl rfl; refine R_take (T_decT rfl (by omega)) ?_ rfl rfl; refine R_nil ?_; refine S_true rfl rfl ?_; refine S_seq rfl ?_; refine S_region rfl rfl ?_; refine R_p rfl ?_ rfl rfl; refine R_p rfl ?_ rfl rfl; refine R_p rfl ?_ rfl rfl; refine R_nil ?_)
      refine hB _ _ _ _ _ _ _ rfl inferInstance (.tmp rfl (.tmp rfl (.tmp rfl .nil))) fun w' hS => ⟨(none, 0), rfl, trivial, (hS.sublist (List.nil_sublist _)).nilrow _ _⟩
    rw [if_neg hn0] at hs
    injection hs with e1 e2
    injection e2 with e2 e3
    subst e1 e2 e3
    obtain ⟨q, hq⟩ : ∃ q, n - 1 = q := ⟨_, rfl⟩
    have hx2 := hx2 (by omega)
    obtain rfl : x1 = (q : Int) := by omega
    subst hx2
    rw [hq] at hN
    have hqk : q < k := by omega
    have hne : A ≠ none := by obtain ⟨ad, rfl, _⟩ := h.2 (by omega); simp
    have hat := cellsL_at (f := emc) emc_len Q default q (by omega)
    obtain ⟨m, hm⟩ : ∃ m, Q.getD q default = m := ⟨_, rfl⟩
    have hmem : m ∈ Q := by rw [← hm]; simp [List.getD, show q < Q.length by omega]
    rw [hm] at hat
    have hat2 : (cellsL emc Q)[q * 3 + 2]? = some (.slice m.2.2.1 m.2.2.2.2.length m.2.2.2.1) := hat 2 _ rfl
    have hlm : l.getD q default = emv m := by rw [← hl, ← hm]; simp [List.getD, show q < Q.length by omega]
    have hbk := hkk m hmem
    have hd1 : Rd w All 1 m.2.2.1 m.2.2.2.2.length (m.2.2.2.2.map bv) := hd (emd m) (List.mem_map.2 ⟨m, hmem, rfl⟩)
    rw [hlm] at hN
    obtain rfl : N = m.2.2.2.2.length := hN.symm
    focus (refine RS_blk ?_; refine S_seq rfl ?_; refine S_seq rfl ?_; refine S_region rfl rfl ?_; refine R_take (T_load rfl rfl rfl rfl) ?_ rfl rfl; refine R_take (T_decF rfl (by omega)) ?_ rfl rfl; refine R_nil ?_; refine S_false rfl rfl ?_; refine S_skip rfl ?_; refine S_seq rfl ?_)
    refine S_draw ([pt b8 22 [.int .u64 ((i + n : Nat) : Int)], pt b2 27 (lgc (i, t) A k c), pt b7 3 [.int .i64 (q : Int)]]) sub_st (by kernel_rfl) rfl (by kernel_rfl) (by kernel_rfl : _ = 11) ?_
    refine D_take 0 rfl (T_load rfl rfl rfl rfl) ?_ rfl rfl (by kernel_rfl) (by kernel_rfl)
    refine D_take 1 rfl (pev_ok rfl) ?_ rfl rfl (by kernel_rfl) (by kernel_rfl)
    refine D_take 2 rfl (T_load rfl rfl rfl rfl) ?_ rfl rfl (by kernel_rfl) (by kernel_rfl)
    refine D_take 3 rfl (T_load rfl rfl rfl rfl) ?_ rfl rfl (by kernel_rfl) (by kernel_rfl)
    refine D_take 4 rfl (T_ixM (sz := 3) (q := q) rfl rfl rfl rfl rfl rfl hne hqk) ?_ rfl rfl (by kernel_rfl) (by kernel_rfl)
    refine D_take 5 rfl (T_fap rfl rfl rfl rfl rfl hne) ?_ rfl rfl (by kernel_rfl) (by kernel_rfl)
    refine D_take 6 rfl (T_ldr rfl rfl rfl (Srd.old h (fun k _ => noOwns k)) (by omega) hat2) ?_ rfl rfl (by kernel_rfl) (by kernel_rfl)
    refine D_one 7 rfl (E_hvG (f := 55) ⟨_, Try.func55, rfl, by kernel_rfl⟩ (fun w hS => bclone_any w m.2.2.1 m.2.2.2.2.length m.2.2.2.1 (m.2.2.2.2.map bv) ((Srd.old hd1 (fun k _ => noOwns k)).rd w hS) (bv_ones _) hbk) rfl rfl) ?_ rfl rfl (by kernel_rfl)
    rintro _ _ ⟨⟨A9, c9⟩, rfl, _, rfl⟩; dsimp only [List.cons_append, List.nil_append]
    refine Nx_same sub_st ?_
    refine D_take 8 rfl (pev_ok rfl) ?_ rfl rfl (by kernel_rfl) (by kernel_rfl)
    refine D_take 9 rfl (pev_ok rfl) ?_ rfl rfl (by kernel_rfl) (by kernel_rfl)
    refine D_take 10 rfl (T_decT rfl (by omega)) ?_ rfl rfl (by kernel_rfl) (by kernel_rfl)
    refine D_done ?_ (by kernel_rfl)
    skip
    skip
    refine hB _ _ _ _ _ _ _ rfl inferInstance (.tmp rfl (.tmp rfl (.tmp rfl .nil))) fun w' hS => ⟨(A9, c9), rfl, trivial, ?_⟩
    rw [hq, hlm]
    exact sub_st (H' := [row 5 1 A9 m.2.2.2.2.length c9 (m.2.2.2.2.map bv)]) w' hS
set_option maxRecDepth 100000 in
set_option maxHeartbeats 4000000 in
theorem confD_any (w : World) (a : At) (A : Option Addr) (c k : Nat) (Q : List Em) (l : List En) (hk : Q.length = k) (hl : Q.map emv = l) (h : Rd w All 3 A k (cellsL emc Q)) (hd : RDt w All (Q.map emd)) (hn : k ≤ 1000) (hkk : ∀ m ∈ Q, m.2.2.2.2.length ≤ 100000) (hr0 : rightB a l = true) (idx : Nat) (ri : Nat) (rbs : List UInt8) (rq : Bool) (N : Nat) (hN : rbs.length = N) (hs : confR a l idx = (ri, rbs, rq)) :
    Gives Try.prog 35 [.agg (lgc a A k c).toArray, .int .u64 (idx : Int)] [] w (X := Option Addr × Nat) (fun x => .tuple #[.int .u64 (ri : Int), .slice x.1 N x.2, .bool rq]) (fun _ => True) (fun x => [row 5 1 x.1 N x.2 (rbs.map bv)]) := by
  refine gives_S Try.func35 rfl Try.ntmps35 Try.results35 (by simp) (St.enter w) (fun B hB => ?_)
  obtain ⟨i, t⟩ := a
  have hll : l.length = k := by rw [← hl, List.length_map, hk]
  have hff := right_fits hr0
  rw [hll] at hff
  have hff : k ≤ 16 ∧ i + k ≤ 18446744073709551614 := hff
  have hfit : (i, t).1 + k ≤ 18446744073709551615 := by show i + k ≤ _; omega
  rw [confR, hr0, if_pos rfl, hll] at hs
  focus (refine S_seq rfl ?_; refine S_region rfl rfl ?_; (refine R_eff (E_boxa (cs := lgc (i, t) A k c) rfl) ?_ rfl rfl; rintro _ _ ⟨b2, rfl, rfl⟩); refine R_p rfl ?_ rfl rfl; refine R_p rfl ?_ rfl rfl; refine R_p rfl ?_ rfl rfl; refine R_nil ?_; refine S_seq rfl ?_; refine S_seq rfl ?_; refine S_region rfl rfl ?_; refine R_p rfl ?_ rfl rfl; refine R_take (T_load rfl rfl rfl rfl) ?_ rfl rfl; refine R_p rfl ?_ rfl rfl; refine R_p rfl ?_ rfl rfl; refine R_nil ?_; refine S_block rfl ?_)
  refine S_loop (X := Nat) (fun n => [(1, .int .u64 (idx : Int)), (2, .pointer (some ⟨b2, 0, none⟩)), (7, .int .i64 (n : Int))]) (fun _ => [pt b2 27 (lgc (i, t) A k c)]) (fun n => n ≤ k ∧ ∀ q, n < q → q ≤ k → cfT (i, t) l idx q = false) (fun n => n) rfl k ⟨Nat.le_refl _, fun q h1 h2 => by omega⟩ (Sub.cons rfl (Sub.cons rfl (Sub.cons rfl Sub.nil))) sub_st ?_
  rintro n ⟨hnk, hno⟩ J hJ
  by_cases hn0 : n = 0
  · rw [cfN_none k fun q h1 h2 => hno q (by omega) h2, if_pos rfl] at hs
    injection hs with e1 e2
    injection e2 with e2 e3
    subst e1 e2 e3 hN
    focus (refine S_seq rfl ?_; refine S_seq rfl ?_; refine S_region rfl rfl ?_; refine R_p rfl ?_ rfl rfl; refine R_take (T_decF rfl (by omega)) ?_ rfl rfl; refine R_nil ?_; refine S_false rfl rfl ?_; refine S_exit rfl rfl ?_; refine S_seq rfl ?_; refine S_region rfl rfl ?_; refine R_p rfl ?_ rfl rfl; refine R_p rfl ?_ rfl rfl; refine R_p rfl ?_ rfl rfl; refine R_nil ?_)
    refine hB _ _ _ _ _ rfl rfl fun w' hS => ⟨(none, 0), rfl, trivial, (hS.sublist (List.nil_sublist _)).nilrow _ _⟩
  have hpf := placeN_fst (i, t) l n
  obtain ⟨⟨pi, pu⟩, hp⟩ : ∃ p, placeN (i, t) l n = p := ⟨_, rfl⟩
  rw [hp] at hpf
  have hpf : pi = i + n := hpf
  subst hpf
  obtain ⟨q, hq⟩ : ∃ q, n - 1 = q := ⟨_, rfl⟩
  have hqk : q < k := by omega
  have hne : A ≠ none := by obtain ⟨ad, rfl, _⟩ := h.2 (by omega); simp
  have hat := cellsL_at (f := emc) emc_len Q default q (by omega)
  obtain ⟨m, hm⟩ : ∃ m, Q.getD q default = m := ⟨_, rfl⟩
  have hmem : m ∈ Q := by rw [← hm]; simp [List.getD, show q < Q.length by omega]
  rw [hm] at hat
  have hlm : l.getD q default = emv m := by rw [← hl, ← hm]; simp [List.getD, show q < Q.length by omega]
  have hbk := hkk m hmem
  have hd1 := hd (emd m) (List.mem_map.2 ⟨m, hmem, rfl⟩)
  have hT : cfT (i, t) l idx n = (decide (i + n ≤ idx) && decide (m.2.1 = 3)) := by
    unfold cfT
    rw [hq, hlm, decide_eq_true (show 0 < n by omega)]
    rfl
  obtain ⟨tm, kd, D, cd, bs⟩ := m
  have hd1 : Rd w All 1 D bs.length (bs.map bv) := hd1
  have hT : cfT (i, t) l idx n = (decide (i + n ≤ idx) && decide (kd = 3)) := hT
  have hbk : bs.length ≤ 100000 := hbk
  have hat1 : (cellsL emc Q)[q * 3 + 1]? = some (.int .i64 kd) := hat 1 _ rfl
  have hat2 : (cellsL emc Q)[q * 3 + 2]? = some (.slice D bs.length cd) := hat 2 _ rfl
  by_cases hi : i + n ≤ idx
  · by_cases hk3 : kd = 3
    · rw [decide_eq_true hi, decide_eq_true hk3] at hT
      rw [cfN_hit hT k hnk hno, if_neg hn0, hq, hlm] at hs
      injection hs with e1 e2
      injection e2 with e2 e3
      subst e1 e2 e3
      obtain rfl : N = bs.length := hN.symm
      focus (refine S_seq rfl ?_; refine S_seq rfl ?_; refine S_region rfl rfl ?_; refine R_p rfl ?_ rfl rfl; refine R_take (T_decT rfl (by omega)) ?_ rfl rfl; refine R_nil ?_; refine S_true rfl rfl ?_; refine S_skip rfl ?_; refine S_seq rfl ?_; refine S_block rfl ?_; refine S_seq rfl ?_; refine S_region rfl rfl ?_; refine R_take (T_loads (ds := lgc (i, t) A k c) rfl rfl rfl rfl rfl) ?_ rfl rfl; refine R_p rfl ?_ rfl rfl; ((refine R_eff (E_hv0 (f := 46) ⟨_, Try.func46, rfl, by kernel_rfl⟩ (fun w hS => placeD_any w (i, t) A c k Q l hk hl ((Srd.old h (fun k _ => noOwns k)).rd w hS) (by omega) hfit n hnk _ hp) rfl rfl (fun _ => rfl)) ?_ rfl rfl; rintro _ _ ⟨_, rfl, _, rfl⟩)); (refine R_eff (E_alloca rfl at_zero) ?_ rfl rfl; rintro _ _ ⟨b8, rfl, rfl⟩); (refine R_eff0 (E_storew (cs := atc (0, 0)) (ds := atc (i + n, pu)) rfl rfl rfl rfl (atc_one _) rfl) ?_ rfl; rintro _ _ rfl); refine R_nil ?_; refine S_seq rfl ?_; refine S_region rfl rfl ?_; refine R_p rfl ?_ rfl rfl; refine R_take (T_load rfl rfl rfl rfl) ?_ rfl rfl; refine R_p rfl ?_ rfl rfl; refine R_take (T_decT rfl (by omega)) ?_ rfl rfl; refine R_take (T_decT rfl (by omega)) ?_ rfl rfl; refine R_p rfl ?_ rfl rfl; refine R_take (T_load rfl rfl rfl rfl) ?_ rfl rfl; refine R_p rfl ?_ rfl rfl; refine R_take (T_subE hq rfl rfl (by omega) (by unfold fits; omega)) ?_ rfl rfl; refine R_take (T_ixM (sz := 3) (q := q) rfl rfl rfl rfl rfl rfl hne hqk) ?_ rfl rfl; refine R_take (T_fap rfl rfl rfl rfl rfl hne) ?_ rfl rfl; refine R_take (T_ldr rfl rfl rfl (Srd.old h (fun k _ => noOwns k)) (by omega) hat1) ?_ rfl rfl; refine R_take (T_decT rfl (by omega)) ?_ rfl rfl; refine R_take (T_decT rfl (by omega)) ?_ rfl rfl; refine R_nil ?_; refine S_true rfl rfl ?_; refine S_seq rfl ?_)
      refine S_draw ([pt b8 24 (atc (i + n, pu)), pt b2 27 (lgc (i, t) A k c)]) sub_st (by kernel_rfl) rfl (by kernel_rfl) (by kernel_rfl : _ = 14) ?_
      refine D_take 0 rfl (pev_ok rfl) ?_ rfl rfl (by kernel_rfl) (by kernel_rfl)
      refine D_take 1 rfl (T_load rfl rfl rfl rfl) ?_ rfl rfl (by kernel_rfl) (by kernel_rfl)
      refine D_take 3 rfl (pev_ok rfl) ?_ rfl rfl (by kernel_rfl) (by kernel_rfl)
      refine D_take 4 rfl (T_load rfl rfl rfl rfl) ?_ rfl rfl (by kernel_rfl) (by kernel_rfl)
      refine D_take 5 rfl (pev_ok rfl) ?_ rfl rfl (by kernel_rfl) (by kernel_rfl)
      (refine D_take 6 rfl (T_subE hq rfl rfl (by omega) (by unfold fits; omega)) ?_ rfl rfl (by kernel_rfl) (by kernel_rfl))
      refine D_take 7 rfl (T_ixM (sz := 3) (q := q) rfl rfl rfl rfl rfl rfl hne hqk) ?_ rfl rfl (by kernel_rfl) (by kernel_rfl)
      refine D_take 8 rfl (T_fap rfl rfl rfl rfl rfl hne) ?_ rfl rfl (by kernel_rfl) (by kernel_rfl)
      refine D_take 9 rfl (T_ldr rfl rfl rfl (Srd.old h (fun k _ => noOwns k)) (by omega) hat2) ?_ rfl rfl (by kernel_rfl) (by kernel_rfl)
      refine D_one 2 rfl (E_lit1 (m := 0) (vs := []) rfl rfl rfl rfl rfl rfl rfl (by simp) (by decide)) ?_ rfl rfl (by kernel_rfl)
      rintro _ _ ⟨bl, rfl, rfl⟩
      refine Nx_same sub_st ?_
      refine D_one 10 rfl (E_apple (sz := 1) (news := bs.map bv) rfl rfl rfl rfl rfl rfl rfl (by decide) .here (Srd.old hd1 (fun k _ => noOwns k)) (bv_ones _) (by show bs.length * 1 ≤ _; omega) (by unfold maxLen; omega)) ?_ rfl rfl (by kernel_rfl)
      rintro _ _ ⟨A', c', rfl, rfl⟩
      refine Nx_same sub_st ?_
      refine D_take 11 rfl (pev_ok rfl) ?_ rfl rfl (by kernel_rfl) (by kernel_rfl)
      refine D_take 12 rfl (pev_ok rfl) ?_ rfl rfl (by kernel_rfl) (by kernel_rfl)
      refine D_take 13 rfl (T_decT rfl (by omega)) ?_ rfl rfl (by kernel_rfl) (by kernel_rfl)
      refine D_done ?_ (by kernel_rfl)
      skip
      skip
      refine hB _ _ _ _ _ rfl rfl fun w' hS => ⟨(A', c'), rfl, trivial, sub_st (H' := [row 5 1 A' bs.length c' (bs.map bv)]) w' hS⟩
    · rw [decide_eq_false hk3, Bool.and_false] at hT
      focus (refine S_seq rfl ?_; refine S_seq rfl ?_; refine S_region rfl rfl ?_; refine R_p rfl ?_ rfl rfl; refine R_take (T_decT rfl (by omega)) ?_ rfl rfl; refine R_nil ?_; refine S_true rfl rfl ?_; refine S_skip rfl ?_; refine S_seq rfl ?_; refine S_block rfl ?_; refine S_seq rfl ?_; refine S_region rfl rfl ?_; refine R_take (T_loads (ds := lgc (i, t) A k c) rfl rfl rfl rfl rfl) ?_ rfl rfl; refine R_p rfl ?_ rfl rfl; ((refine R_eff (E_hv0 (f := 46) ⟨_, Try.func46, rfl, by kernel_rfl⟩ (fun w hS => placeD_any w (i, t) A c k Q l hk hl ((Srd.old h (fun k _ => noOwns k)).rd w hS) (by omega) hfit n hnk _ hp) rfl rfl (fun _ => rfl)) ?_ rfl rfl; rintro _ _ ⟨_, rfl, _, rfl⟩)); (refine R_eff (E_alloca rfl at_zero) ?_ rfl rfl; rintro _ _ ⟨b8, rfl, rfl⟩); (refine R_eff0 (E_storew (cs := atc (0, 0)) (ds := atc (i + n, pu)) rfl rfl rfl rfl (atc_one _) rfl) ?_ rfl; rintro _ _ rfl); refine R_nil ?_; refine S_seq rfl ?_; refine S_region rfl rfl ?_; refine R_p rfl ?_ rfl rfl; refine R_take (T_load rfl rfl rfl rfl) ?_ rfl rfl; refine R_p rfl ?_ rfl rfl; refine R_take (T_decT rfl (by omega)) ?_ rfl rfl; refine R_take (T_decT rfl (by omega)) ?_ rfl rfl; refine R_p rfl ?_ rfl rfl; refine R_take (T_load rfl rfl rfl rfl) ?_ rfl rfl; refine R_p rfl ?_ rfl rfl; refine R_take (T_subE hq rfl rfl (by omega) (by unfold fits; omega)) ?_ rfl rfl; refine R_take (T_ixM (sz := 3) (q := q) rfl rfl rfl rfl rfl rfl hne hqk) ?_ rfl rfl; refine R_take (T_fap rfl rfl rfl rfl rfl hne) ?_ rfl rfl; refine R_take (T_ldr rfl rfl rfl (Srd.old h (fun k _ => noOwns k)) (by omega) hat1) ?_ rfl rfl; refine R_take (T_decF rfl (by omega)) ?_ rfl rfl; refine R_p rfl ?_ rfl rfl; refine R_nil ?_; refine S_false rfl rfl ?_; refine S_skip rfl ?_; refine RS_blk ?_; refine S_region rfl rfl ?_; refine R_p rfl ?_ rfl rfl; refine R_take (T_subE hq rfl rfl (by omega) (by unfold fits; omega)) ?_ rfl rfl; refine R_p rfl ?_ rfl rfl; refine R_nil ?_)
      refine hJ q _ _ ⟨by omega, fun q2 h1 h2 => ?_⟩ (Sub.cons rfl (Sub.cons rfl (Sub.cons rfl Sub.nil))) sub_st (by omega)
      rcases Nat.lt_or_ge n q2 with h3 | h3
      · exact hno q2 h3 h2
      · rw [show q2 = n by omega]; exact hT
  · rw [decide_eq_false hi, Bool.false_and] at hT
    focus (refine S_seq rfl ?_; refine S_seq rfl ?_; refine S_region rfl rfl ?_; refine R_p rfl ?_ rfl rfl; refine R_take (T_decT rfl (by omega)) ?_ rfl rfl; refine R_nil ?_; refine S_true rfl rfl ?_; refine S_skip rfl ?_; refine S_seq rfl ?_; refine S_block rfl ?_; refine S_seq rfl ?_; refine S_region rfl rfl ?_; refine R_take (T_loads (ds := lgc (i, t) A k c) rfl rfl rfl rfl rfl) ?_ rfl rfl; refine R_p rfl ?_ rfl rfl; ((refine R_eff (E_hv0 (f := 46) ⟨_, Try.func46, rfl, by kernel_rfl⟩ (fun w hS => placeD_any w (i, t) A c k Q l hk hl ((Srd.old h (fun k _ => noOwns k)).rd w hS) (by omega) hfit n hnk _ hp) rfl rfl (fun _ => rfl)) ?_ rfl rfl; rintro _ _ ⟨_, rfl, _, rfl⟩)); (refine R_eff (E_alloca rfl at_zero) ?_ rfl rfl; rintro _ _ ⟨b8, rfl, rfl⟩); (refine R_eff0 (E_storew (cs := atc (0, 0)) (ds := atc (i + n, pu)) rfl rfl rfl rfl (atc_one _) rfl) ?_ rfl; rintro _ _ rfl); refine R_nil ?_; refine S_seq rfl ?_; refine S_region rfl rfl ?_; refine R_p rfl ?_ rfl rfl; refine R_take (T_load rfl rfl rfl rfl) ?_ rfl rfl; refine R_p rfl ?_ rfl rfl; refine R_take (T_decF rfl (by omega)) ?_ rfl rfl; refine R_p rfl ?_ rfl rfl; refine R_skip ?_ rfl rfl; refine R_skip ?_ rfl rfl; refine R_skip ?_ rfl rfl; refine R_skip ?_ rfl rfl; refine R_skip ?_ rfl rfl; refine R_skip ?_ rfl rfl; refine R_skip ?_ rfl rfl; refine R_skip ?_ rfl rfl; refine R_p rfl ?_ rfl rfl; refine R_nil ?_; refine S_false rfl rfl ?_; refine S_skip rfl ?_; refine RS_blk ?_; refine S_region rfl rfl ?_; refine R_p rfl ?_ rfl rfl; refine R_take (T_subE hq rfl rfl (by omega) (by unfold fits; omega)) ?_ rfl rfl; refine R_p rfl ?_ rfl rfl; refine R_nil ?_)
    refine hJ q _ _ ⟨by omega, fun q2 h1 h2 => ?_⟩ (Sub.cons rfl (Sub.cons rfl (Sub.cons rfl Sub.nil))) sub_st (by omega)
    rcases Nat.lt_or_ge n q2 with h3 | h3
    · exact hno q2 h3 h2
    · rw [show q2 = n by omega]; exact hT
theorem from_S (w : World) (a : At) (A : Option Addr) (c k : Nat) (Q : List Em) (l : List En) (hk : Q.length = k) (hl : Q.map emv = l) (h : Rd w All 3 A k (cellsL emc Q)) (hd : RDt w All (Q.map emd)) (hc : k ≤ c) (hn : k ≤ 1000) (hkk : ∀ m ∈ Q, m.2.2.2.2.length ≤ 100000) (idx : Nat) (hidx : idx ≤ 18446744073709551615) (n : Int) (e : Int) (p : At) (r : List En) (K : Nat) (hK : r.length = K) (hs : frm a l idx n = (e, p, r)) :
    Gives Try.prog 26 [.agg (lgc a A k c).toArray, .int .u64 (idx : Int), zi n] [] w (X := (Option Addr × Nat) × Sh r) (fun x => .tuple #[.agg (atc p).toArray, .slice x.1.1 K x.1.2, zi e]) (fun _ => True) (fun x => [row 44 3 x.1.1 K x.1.2 (cellsL emc x.2.1), dtB 5 (x.2.1.map emd)]) := by
  subst hk
  subst hl
  subst hK
  have h1 := from_any w a A c Q h hd hc hn hkk idx hidx n
  rw [hs] at h1
  exact h1.mono fun u w' ⟨⟨⟨A5, c5⟩, P⟩, he, h1, hS⟩ => ⟨((A5, c5), ⟨P, h1, fun m hm => dtB_caps (e := 5) (D := P.map emd) hS (by simp) (emd m) (List.mem_map.2 ⟨m, hm, rfl⟩)⟩), he, trivial, hS⟩
set_option maxRecDepth 100000 in
set_option maxHeartbeats 4000000 in
theorem fromD_any (w : World) (a : At) (A : Option Addr) (c k : Nat) (Q : List Em) (l : List En) (hk : Q.length = k) (hl : Q.map emv = l) (h : Rd w All 3 A k (cellsL emc Q)) (hd : RDt w All (Q.map emd)) (hc : k ≤ c) (hn : k ≤ 1000) (hkk : ∀ m ∈ Q, m.2.2.2.2.length ≤ 100000) (hr0 : rightB a l = true) (idx : Nat) (hidx : idx ≤ 18446744073709551615) (n : Int) (e : Int) (p : At) (r : List En) (K : Nat) (hK : r.length = K) (hs : frm a l idx n = (e, p, r)) :
    Gives Try.prog 34 [.agg (lgc a A k c).toArray, .int .u64 (idx : Int), zi n] [] w (X := (Option Addr × Nat) × Sh r) (fun x => .tuple #[.agg (atc p).toArray, .slice x.1.1 K x.1.2, zi e]) (fun _ => True) (fun x => [row 44 3 x.1.1 K x.1.2 (cellsL emc x.2.1), dtB 5 (x.2.1.map emd)]) := by
  refine gives_C Try.func34 rfl Try.ntmps34 Try.results34 (by simp) (St.enter w) (fun B hB => ?_)
  obtain ⟨i, t⟩ := a
  have hll : l.length = k := by rw [← hl, List.length_map, hk]
  have hff := right_fits hr0
  rw [hll] at hff
  have hff : k ≤ 16 ∧ i + k ≤ 18446744073709551614 := hff
  have hfit : (i, t).1 + k ≤ 18446744073709551615 := by show i + k ≤ _; omega
  have hla2 : (lastA (i, t) l).1 = i + k := by rw [lastA, hll]
  obtain ⟨lt, hlt⟩ : ∃ x, (lastA (i, t) l).2 = x := ⟨_, rfl⟩
  have hla : lastA (i, t) l = (i + k, lt) := Prod.ext hla2 hlt
  have hs0 : frm (i, t) l idx n = if idx ≤ i ∨ i + k + 1 < idx then ((4, (0, 0), []) : Int × At × List En) else if n < 0 then (2, (0, 0), []) else (0, placeN (i, t) l (idx - 1 - i), (l.drop (idx - 1 - i)).take (min n.toNat (l.length - (idx - 1 - i)))) := by
    unfold frm
    rw [if_pos hr0, hla2]
  rw [hs0] at hs
  by_cases h1 : idx ≤ i
  · rw [if_pos (.inl h1)] at hs
    injection hs with e1 e2
    injection e2 with e2 e3
    subst e1 e2 e3 hK
    focus (refine S_seq rfl ?_; refine S_region rfl rfl ?_; (refine R_eff (E_boxa (cs := lgc (i, t) A k c) rfl) ?_ rfl rfl; rintro _ _ ⟨b3, rfl, rfl⟩); (refine R_eff (E_alloca rfl at_zero) ?_ rfl rfl; rintro _ _ ⟨b6, rfl, rfl⟩); refine R_p rfl ?_ rfl rfl; refine R_p rfl ?_ rfl rfl; refine R_nil ?_; refine S_seq rfl ?_; refine S_seq rfl ?_; refine S_region rfl rfl ?_; refine R_p rfl ?_ rfl rfl; refine R_p rfl ?_ rfl rfl; refine R_p rfl ?_ rfl rfl; refine R_take (T_load rfl rfl rfl rfl) ?_ rfl rfl; refine R_take (T_decT rfl (by omega)) ?_ rfl rfl; refine R_p rfl ?_ rfl rfl; refine R_skip ?_ rfl rfl; refine R_skip ?_ rfl rfl; refine R_skip ?_ rfl rfl; refine R_skip ?_ rfl rfl; refine R_skip ?_ rfl rfl; refine R_skip ?_ rfl rfl; refine R_p rfl ?_ rfl rfl; refine R_nil ?_; refine S_true rfl rfl ?_; refine S_seq rfl ?_; refine S_region rfl rfl ?_; refine R_take (T_build0 at_built0) ?_ rfl rfl; (refine R_eff0 (E_storew (cs := atc (0, 0)) (ds := atc (0, 0)) rfl rfl rfl rfl (atc_one _) rfl) ?_ rfl; rintro _ _ rfl); refine R_p rfl ?_ rfl rfl; refine R_p rfl ?_ rfl rfl; refine R_nil ?_)
    refine hB _ _ _ _ _ rfl (.cell rfl rfl rfl inferInstance rfl (.tmp rfl (.tmp rfl .nil))) fun w' hS => ⟨((none, 0), ⟨[], rfl, fun m hm => absurd hm (by simp)⟩), rfl, trivial, dtB_nil2 (hS.sublist (List.nil_sublist _))⟩
  by_cases h2 : i + k + 1 < idx
  · rw [if_pos (.inr h2)] at hs
    injection hs with e1 e2
    injection e2 with e2 e3
    subst e1 e2 e3 hK
    focus (refine S_seq rfl ?_; refine S_region rfl rfl ?_; (refine R_eff (E_boxa (cs := lgc (i, t) A k c) rfl) ?_ rfl rfl; rintro _ _ ⟨b3, rfl, rfl⟩); (refine R_eff (E_alloca rfl at_zero) ?_ rfl rfl; rintro _ _ ⟨b6, rfl, rfl⟩); refine R_p rfl ?_ rfl rfl; refine R_p rfl ?_ rfl rfl; refine R_nil ?_; refine S_seq rfl ?_; refine S_seq rfl ?_; refine S_region rfl rfl ?_; refine R_p rfl ?_ rfl rfl; refine R_p rfl ?_ rfl rfl; refine R_p rfl ?_ rfl rfl; refine R_take (T_load rfl rfl rfl rfl) ?_ rfl rfl; refine R_take (T_decF rfl (by omega)) ?_ rfl rfl; refine R_p rfl ?_ rfl rfl; refine R_p rfl ?_ rfl rfl; refine R_take (T_loads (ds := lgc (i, t) A k c) rfl rfl rfl rfl rfl) ?_ rfl rfl; ((refine R_eff (E_hv0 (f := 27) ⟨_, Try.func27, rfl, by kernel_rfl⟩ (fun w hS => lastD_any w (i, t) A c k Q l hk hl ((Srd.old h (fun k _ => noOwns k)).rd w hS) (by omega) hfit _ hla) rfl rfl (fun _ => rfl)) ?_ rfl rfl; rintro _ _ ⟨_, rfl, _, rfl⟩)); refine R_take (T_fldv (xs := atc (i + k, lt)) rfl rfl rfl rfl rfl rfl) ?_ rfl rfl; refine R_take (T_addN rfl rfl (by unfold fits; omega)) ?_ rfl rfl; refine R_take (T_decT rfl (by omega)) ?_ rfl rfl; refine R_take (T_decT rfl (by omega)) ?_ rfl rfl; refine R_nil ?_; refine S_true rfl rfl ?_; refine S_seq rfl ?_; refine S_region rfl rfl ?_; refine R_take (T_build0 at_built0) ?_ rfl rfl; (refine R_eff0 (E_storew (cs := atc (0, 0)) (ds := atc (0, 0)) rfl rfl rfl rfl (atc_one _) rfl) ?_ rfl; rintro _ _ rfl); refine R_p rfl ?_ rfl rfl; refine R_p rfl ?_ rfl rfl; refine R_nil ?_)
    refine hB _ _ _ _ _ rfl (.cell rfl rfl rfl inferInstance rfl (.tmp rfl (.tmp rfl .nil))) fun w' hS => ⟨((none, 0), ⟨[], rfl, fun m hm => absurd hm (by simp)⟩), rfl, trivial, dtB_nil2 (hS.sublist (List.nil_sublist _))⟩
  rw [if_neg (fun e => Or.elim e h1 h2)] at hs
  by_cases h3 : n < 0
  · rw [if_pos h3] at hs
    injection hs with e1 e2
    injection e2 with e2 e3
    subst e1 e2 e3 hK
    focus (refine S_seq rfl ?_; refine S_region rfl rfl ?_; (refine R_eff (E_boxa (cs := lgc (i, t) A k c) rfl) ?_ rfl rfl; rintro _ _ ⟨b3, rfl, rfl⟩); (refine R_eff (E_alloca rfl at_zero) ?_ rfl rfl; rintro _ _ ⟨b6, rfl, rfl⟩); refine R_p rfl ?_ rfl rfl; refine R_p rfl ?_ rfl rfl; refine R_nil ?_; refine S_seq rfl ?_; refine S_seq rfl ?_; refine S_region rfl rfl ?_; refine R_p rfl ?_ rfl rfl; refine R_p rfl ?_ rfl rfl; refine R_p rfl ?_ rfl rfl; refine R_take (T_load rfl rfl rfl rfl) ?_ rfl rfl; refine R_take (T_decF rfl (by omega)) ?_ rfl rfl; refine R_p rfl ?_ rfl rfl; refine R_p rfl ?_ rfl rfl; refine R_take (T_loads (ds := lgc (i, t) A k c) rfl rfl rfl rfl rfl) ?_ rfl rfl; ((refine R_eff (E_hv0 (f := 27) ⟨_, Try.func27, rfl, by kernel_rfl⟩ (fun w hS => lastD_any w (i, t) A c k Q l hk hl ((Srd.old h (fun k _ => noOwns k)).rd w hS) (by omega) hfit _ hla) rfl rfl (fun _ => rfl)) ?_ rfl rfl; rintro _ _ ⟨_, rfl, _, rfl⟩)); refine R_take (T_fldv (xs := atc (i + k, lt)) rfl rfl rfl rfl rfl rfl) ?_ rfl rfl; refine R_take (T_addN rfl rfl (by unfold fits; omega)) ?_ rfl rfl; refine R_take (T_decF rfl (by omega)) ?_ rfl rfl; refine R_p rfl ?_ rfl rfl; refine R_nil ?_; refine S_false rfl rfl ?_; refine S_skip rfl ?_; refine S_seq rfl ?_; refine S_seq rfl ?_; refine S_region rfl rfl ?_; refine R_p rfl ?_ rfl rfl; refine R_take (T_decT rfl (by omega)) ?_ rfl rfl; refine R_nil ?_; refine S_true rfl rfl ?_; refine S_seq rfl ?_; refine S_region rfl rfl ?_; refine R_take (T_build0 at_built0) ?_ rfl rfl; (refine R_eff0 (E_storew (cs := atc (0, 0)) (ds := atc (0, 0)) rfl rfl rfl rfl (atc_one _) rfl) ?_ rfl; rintro _ _ rfl); refine R_p rfl ?_ rfl rfl; refine R_p rfl ?_ rfl rfl; refine R_nil ?_)
    refine hB _ _ _ _ _ rfl (.cell rfl rfl rfl inferInstance rfl (.tmp rfl (.tmp rfl .nil))) fun w' hS => ⟨((none, 0), ⟨[], rfl, fun m hm => absurd hm (by simp)⟩), rfl, trivial, dtB_nil2 (hS.sublist (List.nil_sublist _))⟩
  rw [if_neg h3] at hs
  obtain ⟨m, rfl⟩ : ∃ m : Nat, n = (m : Int) := ⟨n.toNat, by omega⟩
  obtain ⟨q, hq⟩ : ∃ q, idx - i - 1 = q := ⟨_, rfl⟩
  rw [Int.toNat_natCast, show idx - 1 - i = q by omega, hll] at hs
  injection hs with e1 e2
  injection e2 with e2 e3
  subst e1 e3
  have hp := e2
  have hqk : q ≤ k := by omega
  have h' : Rd w All 3 A Q.length (cellsL emc Q) := by rw [hk]; exact h
  have hcutr : Rd w All 3 (cutP A c q 3) (min m (k - q)) (cellsL emc ((Q.drop q).take (min m (k - q)))) := by
    have := rd_takeE (rd_cutE (q := q) (c := c) h' (by omega) (by omega)) (Nat.min_le_right m (Q.length - q))
    rwa [hk] at this
  have hcutd : RDt w All (((Q.drop q).take (min m (k - q))).map emd) := fun d hd' => rdt_drop hd q d (by
    obtain ⟨e, he, rfl⟩ := List.mem_map.1 hd'
    exact List.mem_map.2 ⟨e, List.mem_of_mem_take he, rfl⟩)
  have hkd : ∀ e ∈ (Q.drop q).take (min m (k - q)), e.2.2.2.2.length ≤ 100000 := fun e he => hkk e (List.mem_of_mem_drop (List.mem_of_mem_take he))
  have hml : ((Q.drop q).take (min m (k - q))).length = min m (k - q) := by rw [List.length_take, List.length_drop]; omega
  have hev : ((Q.drop q).take (min m (k - q))).map emv = (l.drop q).take (min m (k - q)) := by rw [List.map_take, List.map_drop, hl]
  obtain ⟨u, hu⟩ : ∃ u, min m (k - q) = u := ⟨_, rfl⟩
  rw [hu] at hcutr hcutd hkd hml hev hK
  have hKu : K = u := by rw [← hK, List.length_take, List.length_drop, hll]; omega
  subst hKu
  have hsb : q + K - q = K := by omega
  have hqc : q + K ≤ c := by omega
  rw [hu] at hB
  focus (refine S_seq rfl ?_; refine S_region rfl rfl ?_; (refine R_eff (E_boxa (cs := lgc (i, t) A k c) rfl) ?_ rfl rfl; rintro _ _ ⟨b3, rfl, rfl⟩); (refine R_eff (E_alloca rfl at_zero) ?_ rfl rfl; rintro _ _ ⟨b6, rfl, rfl⟩); refine R_p rfl ?_ rfl rfl; refine R_p rfl ?_ rfl rfl; refine R_nil ?_; refine S_seq rfl ?_; refine S_seq rfl ?_; refine S_region rfl rfl ?_; refine R_p rfl ?_ rfl rfl; refine R_p rfl ?_ rfl rfl; refine R_p rfl ?_ rfl rfl; refine R_take (T_load rfl rfl rfl rfl) ?_ rfl rfl; refine R_take (T_decF rfl (by omega)) ?_ rfl rfl; refine R_take (T_decF rfl (by omega)) ?_ rfl rfl; refine R_p rfl ?_ rfl rfl; refine R_take (T_loads (ds := lgc (i, t) A k c) rfl rfl rfl rfl rfl) ?_ rfl rfl; ((refine R_eff (E_hv0 (f := 27) ⟨_, Try.func27, rfl, by kernel_rfl⟩ (fun w hS => lastD_any w (i, t) A c k Q l hk hl ((Srd.old h (fun k _ => noOwns k)).rd w hS) (by omega) hfit _ hla) rfl rfl (fun _ => rfl)) ?_ rfl rfl; rintro _ _ ⟨_, rfl, _, rfl⟩)); refine R_take (T_fldv (xs := atc (i + k, lt)) rfl rfl rfl rfl rfl rfl) ?_ rfl rfl; refine R_take (T_addN rfl rfl (by unfold fits; omega)) ?_ rfl rfl; refine R_take (T_decF rfl (by omega)) ?_ rfl rfl; refine R_take (T_decF rfl (by omega)) ?_ rfl rfl; refine R_nil ?_; refine S_false rfl rfl ?_; refine S_skip rfl ?_; refine S_seq rfl ?_; refine S_seq rfl ?_; refine S_region rfl rfl ?_; refine R_p rfl ?_ rfl rfl; refine R_take (T_decF rfl (by omega)) ?_ rfl rfl; refine R_nil ?_; refine S_false rfl rfl ?_; refine S_skip rfl ?_; refine S_seq rfl ?_; refine S_region rfl rfl ?_; refine R_p rfl ?_ rfl rfl; refine R_p rfl ?_ rfl rfl; refine R_p rfl ?_ rfl rfl; refine R_take (T_load rfl rfl rfl rfl) ?_ rfl rfl; refine R_take (T_subN rfl rfl (by omega) (by unfold fits; omega)) ?_ rfl rfl; refine R_take (T_subE hq rfl rfl (by omega) (by unfold fits; omega)) ?_ rfl rfl; refine R_take (T_convf rfl rfl rfl rfl (by unfold fits; omega)) ?_ rfl rfl; refine R_p rfl ?_ rfl rfl; refine R_nil ?_; refine S_seq rfl ?_)
  refine S_draw ([pt b3 27 (lgc (i, t) A k c)]) sub_st (by kernel_rfl) rfl (by kernel_rfl) (by kernel_rfl : _ = 20) ?_
  refine D_take 0 rfl (T_loads (ds := lgc (i, t) A k c) rfl rfl rfl rfl rfl) ?_ rfl rfl (by kernel_rfl) (by kernel_rfl)
  refine D_take 1 rfl (pev_ok rfl) ?_ rfl rfl (by kernel_rfl) (by kernel_rfl)
  refine D_take 3 rfl (pev_ok rfl) ?_ rfl rfl (by kernel_rfl) (by kernel_rfl)
  refine D_take 4 rfl (T_load rfl rfl rfl rfl) ?_ rfl rfl (by kernel_rfl) (by kernel_rfl)
  refine D_take 5 rfl (pev_ok rfl) ?_ rfl rfl (by kernel_rfl) (by kernel_rfl)
  refine D_take 6 rfl (pev_ok rfl) ?_ rfl rfl (by kernel_rfl) (by kernel_rfl)
  refine D_take 7 rfl (pev_ok rfl) ?_ rfl rfl (by kernel_rfl) (by kernel_rfl)
  refine D_take 8 rfl (pev_ok rfl) ?_ rfl rfl (by kernel_rfl) (by kernel_rfl)
  refine D_take 9 rfl (T_load rfl rfl rfl rfl) ?_ rfl rfl (by kernel_rfl) (by kernel_rfl)
  refine D_take 10 rfl (pev_ok rfl) ?_ rfl rfl (by kernel_rfl) (by kernel_rfl)
  refine D_take 11 rfl (pev_ok rfl) ?_ rfl rfl (by kernel_rfl) (by kernel_rfl)
  (refine D_take 12 rfl (T_subN rfl rfl (by omega) (by unfold fits; omega)) ?_ rfl rfl (by kernel_rfl) (by kernel_rfl))
  refine D_take 13 rfl (T_minE hu rfl rfl) ?_ rfl rfl (by kernel_rfl) (by kernel_rfl)
  (refine D_take 14 rfl (T_addN rfl rfl (by unfold fits; omega)) ?_ rfl rfl (by kernel_rfl) (by kernel_rfl))
  refine D_take 15 rfl (T_slbE (sz := 3) hsb rfl rfl rfl rfl rfl rfl rfl (by omega) hqc) ?_ rfl rfl (by kernel_rfl) (by kernel_rfl)
  refine D_one 2 rfl (E_hv0 (f := 46) ⟨_, Try.func46, rfl, by kernel_rfl⟩ (fun w hS => placeD_any w (i, t) A c k Q l hk hl ((Srd.old h (fun k _ => noOwns k)).rd w hS) (by omega) hfit q hqk _ hp) rfl rfl (fun _ => rfl)) ?_ rfl rfl (by kernel_rfl)
  rintro _ _ ⟨_, rfl, _, rfl⟩
  refine Nx_same sub_st ?_
  refine D_one 16 rfl (E_hvG (f := 48) ⟨_, Try.func48, rfl, by kernel_rfl⟩ (fun w hS => entD_any w (cutP A c q 3) (c - q) K ((Q.drop q).take K) ((l.drop q).take K) hml hev ((Srd.old hcutr (fun k _ => noOwns k)).rd w hS) ((SDt.old hcutd (fun k _ => noOwns k)).rd w hS) (by omega) hkd) rfl rfl) ?_ rfl rfl (by kernel_rfl)
  rintro _ _ ⟨⟨⟨A5, c5⟩, P5⟩, rfl, _, rfl⟩; dsimp only [List.cons_append, List.nil_append]
  refine Nx_same sub_st ?_
  refine D_one 17 rfl (E_storew (cs := atc (0, 0)) (ds := atc p) rfl rfl rfl rfl (atc_one _) rfl) ?_ rfl rfl (by kernel_rfl)
  rintro _ _ rfl
  refine Nx_same sub_st ?_
  refine D_take 18 rfl (pev_ok rfl) ?_ rfl rfl (by kernel_rfl) (by kernel_rfl)
  refine D_take 19 rfl (pev_ok rfl) ?_ rfl rfl (by kernel_rfl) (by kernel_rfl)
  refine D_done ?_ (by kernel_rfl)
  skip
  skip
  refine hB _ _ _ _ _ rfl (.cell rfl rfl rfl inferInstance rfl (.tmp rfl (.tmp rfl .nil))) fun w' hS => ⟨((A5, c5), P5), rfl, trivial, sub_st _ hS⟩
end Go.Proofs.Ytkdpfnaaopimoaa
