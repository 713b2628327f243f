/- Nets: a row of cuts searched. -/
import Derived.Test.YtclmaoagdkhboaaNtG
namespace Go.Proofs.Ytclmaoagdkhboaa
open Go.RowKit Go.ChangeShapes Go.WideShapes Go.ChangeAt
open Asn (pt row rb)
set_option linter.unusedVariables false
set_option linter.unusedSimpArgs false
--@use N

theorem T_shrN {P : Program} {n : Nat} {w0 : World} {M : Nat → Prop} {T : Slots} {H : List Asn} {dd : Option Tmp} {tt : TypeId} {pos : String} {af : Array Edge} {g : Option (Nat × Bool)} {x y : Operand} {t u : TypeId} {kk kj : IntKind} {i j : Int} {p q : Nat} (hx : oget T x = some (.int kk i)) (hy : oget T y = some (.int kj j)) [hi : NatOf i p] [hj : NatOf j q] (hq : q ≤ kk.bits) :
    Tk P n w0 M T H ⟨dd, .binOp .shr t x y u, tt, pos, af, g⟩ (.int kk ((p / 2 ^ q : Nat) : Int)) := by
  rw [hi.is] at hx
  rw [hj.is] at hy
  have h := T_shr (P := P) (n := n) (w0 := w0) (M := M) (H := H) (dd := dd) (tt := tt) (pos := pos) (af := af) (g := g) (t := t) (u := u) hx hy (by omega)
  have e : Int.fdiv (p : Int) (2 ^ (min ((q : Int)).toNat kk.bits)) = ((p / 2 ^ q : Nat) : Int) := by
    have e1 : min ((q : Int)).toNat kk.bits = q := by rw [Int.toNat_natCast]; omega
    rw [e1, Int.fdiv_eq_ediv_of_nonneg _ (Int.le_of_lt (Int.pow_pos (by decide))), Int.natCast_ediv, Int.natCast_pow]
    rfl
  rwa [e] at h
/-- where a cut stands among the cuts -/
def keyC (c : Ct) : Int := 10 * c.1 + c.2
/-- both its nodes are nodes -/
def okC (c : Ct) : Prop := 1 ≤ c.1 ∧ c.1 ≤ 8 ∧ 1 ≤ c.2 ∧ c.2 ≤ 8
theorem ord_lt {x y : Ct} (hx : okC x) (hy : okC y) : ordI x y < 0 ↔ keyC x < keyC y := by
  rw [ordI_eq]
  unfold okC at hx hy
  unfold keyC
  split
  · omega
  split
  · omega
  split
  · omega
  split <;> omega
theorem ord_eq {x y : Ct} (hx : okC x) (hy : okC y) : ordI x y = 0 ↔ keyC x = keyC y := by
  rw [ordI_eq]
  unfold okC at hx hy
  unfold keyC
  split
  · omega
  split
  · omega
  split
  · omega
  split <;> omega
theorem key_inj {x y : Ct} (hx : okC x) (hy : okC y) (h : keyC x = keyC y) : x = y := by
  unfold okC at hx hy
  unfold keyC at h
  exact Prod.ext (by omega) (by omega)
/-- cuts in order, and a cut sought among them -/
def GoodC (C : List Ct) (n : Nat) (x : Ct) : Prop := okC x ∧ (∀ k, k < n → okC (C.getD k default)) ∧ ∀ p q, p < q → q < n → keyC (C.getD p default) < keyC (C.getD q default)
set_option maxRecDepth 100000 in
set_option maxHeartbeats 4000000 in
theorem searchC_any (w : World) (A : Option Addr) (n c : Nat) (C : List Ct) (hk : C.length = n) (x : Ct) (h : Rd w All 2 A n (cellsL ctc C)) (hn : n ≤ 1000) :
    Gives Try.prog 62 [.slice A n c, .agg (ctc x).toArray, .func (.func 53) #[] #[]] [] w (X := Nat × Bool) (fun u => .tuple #[.int .i64 (u.1 : Int), .bool u.2]) (fun u => u.1 ≤ n ∧ (u.2 = true → u.1 < n) ∧ (GoodC C n x → (∀ k, k < u.1 → keyC (C.getD k default) < keyC x) ∧ (∀ k, u.1 ≤ k → k < n → ¬ keyC (C.getD k default) < keyC x) ∧ (u.2 = true ↔ u.1 < n ∧ C.getD u.1 default = x))) (fun _ => []) := by
  refine gives_S Try.func62 rfl Try.ntmps62 Try.results62 (by simp) (St.enter w) (fun B hB => ?_)
  have hne : 0 < n → A ≠ none := fun h0 => by obtain ⟨ad, rfl, _⟩ := h.2 (by omega); simp
  focus (refine S_seq rfl ?_; refine S_region rfl rfl ?_; (refine R_eff (E_boxa (cs := ctc x) rfl) ?_ rfl rfl; rintro _ _ ⟨b4, rfl, rfl⟩); refine R_p rfl ?_ rfl rfl; refine R_p rfl ?_ rfl rfl; refine R_nil ?_; refine S_seq rfl ?_; refine S_region rfl rfl ?_; refine R_p rfl ?_ rfl rfl; refine R_p rfl ?_ rfl rfl; refine R_p rfl ?_ rfl rfl; refine R_nil ?_; refine S_seq rfl ?_; refine S_region rfl rfl ?_; refine R_p rfl ?_ rfl rfl; refine R_p rfl ?_ rfl rfl; refine R_p rfl ?_ rfl rfl; refine R_nil ?_; refine S_seq rfl ?_; refine S_block rfl ?_)
  refine S_loop (X := Nat × Nat) (fun q => [(0, .slice A n c), (2, .func (.func 53) #[] #[]), (4, .pointer (some ⟨b4, 0, none⟩)), (8, .int .i64 (n : Int)), (9, .int .i64 (q.1 : Int)), (10, .int .i64 (q.2 : Int))]) (fun _ => [pt b4 73 (ctc x)]) (fun q => q.1 ≤ q.2 ∧ q.2 ≤ n ∧ (GoodC C n x → (∀ k, k < q.1 → keyC (C.getD k default) < keyC x) ∧ ∀ k, q.2 ≤ k → k < n → ¬ keyC (C.getD k default) < keyC x)) (fun q => q.2 - q.1) rfl (0, n) ⟨Nat.zero_le _, Nat.le_refl _, fun _ => ⟨fun k hk => absurd hk (Nat.not_lt_zero _), fun k h1 h2 => by dsimp only at h1; omega⟩⟩ (Sub.cons rfl (Sub.cons rfl (Sub.cons rfl (Sub.cons rfl (Sub.cons rfl (Sub.cons rfl Sub.nil)))))) sub_st ?_
  rintro ⟨i, j⟩ ⟨hij, hjn, hg⟩ J hJ
  dsimp only at hij hjn hg ⊢
  rcases Nat.lt_or_ge i j with hlt | hlt
  · have hne := hne (by omega)
    obtain ⟨k, hkk⟩ : ∃ k, (i + j) / 2 ^ 1 = k := ⟨_, rfl⟩
    have hkj : k < j := by omega
    have hki : i ≤ k := by omega
    have hat := cellsL_at (f := ctc) ctc_len C default k (by omega)
    obtain ⟨y, hy⟩ : ∃ y, C.getD k default = y := ⟨_, rfl⟩
    rw [hy] at hat
    have hat : ∀ e v, (ctc y)[e]? = some v → (cellsL ctc C)[(i + j) / 2 ^ 1 * 2 + e]? = some v := by rw [hkk]; exact hat
    obtain ⟨r, hr⟩ : ∃ r, ordI y x = r := ⟨_, rfl⟩
    by_cases hr0 : r < 0
    · skip
      focus (refine S_seq rfl ?_; refine S_seq rfl ?_; refine S_region rfl rfl ?_; refine R_p rfl ?_ rfl rfl; refine R_p rfl ?_ rfl rfl; refine R_take (T_decT rfl (by omega)) ?_ rfl rfl; refine R_nil ?_; refine S_true rfl rfl ?_; refine S_skip rfl ?_; refine S_block rfl ?_; refine S_seq rfl ?_; refine S_region rfl rfl ?_; refine R_p rfl ?_ rfl rfl; refine R_p rfl ?_ rfl rfl; refine R_take (T_addN rfl rfl (by unfold fits; omega)) ?_ rfl rfl; refine R_take (T_convf rfl rfl rfl rfl (by unfold fits; omega)) ?_ rfl rfl; refine R_take (T_shrN rfl rfl (by decide)) ?_ rfl rfl; refine R_take (T_convf rfl rfl rfl rfl (by unfold fits; omega)) ?_ rfl rfl; refine R_p rfl ?_ rfl rfl; refine R_nil ?_; refine S_seq rfl ?_)
      refine S_draw ([pt b4 73 (ctc x)]) sub_st (by kernel_rfl) rfl (by kernel_rfl) (by kernel_rfl : _ = 8) ?_
      refine D_take 0 rfl (pev_ok rfl) ?_ rfl rfl (by kernel_rfl) (by kernel_rfl)
      refine D_take 1 rfl (pev_ok rfl) ?_ rfl rfl (by kernel_rfl) (by kernel_rfl)
      refine D_take 2 rfl (pev_ok rfl) ?_ rfl rfl (by kernel_rfl) (by kernel_rfl)
      refine D_take 3 rfl (T_ixM (sz := 2) rfl rfl rfl rfl rfl rfl hne (by omega)) ?_ rfl rfl (by kernel_rfl) (by kernel_rfl)
      refine D_take 4 rfl (T_lda (ds := ctc y) rfl rfl rfl (Srd.old h (fun k _ => noOwns k)) rfl (by omega) hat) ?_ rfl rfl (by kernel_rfl) (by kernel_rfl)
      refine D_take 5 rfl (T_loads (ds := ctc x) rfl rfl rfl rfl rfl) ?_ rfl rfl (by kernel_rfl) (by kernel_rfl)
      refine D_one 6 rfl (E_cloA (cap := []) rfl (E_hv0 (f := 53) ⟨_, Try.func53, rfl, by kernel_rfl⟩ (fun w hS => order_any w y x) rfl rfl (fun _ => rfl))) ?_ rfl rfl (by kernel_rfl)
      rintro _ _ ⟨_, rfl, _, rfl⟩; rw [hr]
      refine Nx_same sub_st ?_
      refine D_take 7 rfl (T_decT rfl (by omega)) ?_ rfl rfl (by kernel_rfl) (by kernel_rfl)
      refine D_done ?_ (by kernel_rfl)
      skip
      focus (refine S_true rfl rfl ?_; refine S_region rfl rfl ?_; refine R_p rfl ?_ rfl rfl; refine R_take (T_addN rfl rfl (by unfold fits; omega)) ?_ rfl rfl; refine R_p rfl ?_ rfl rfl; refine R_nil ?_; refine RS_blk ?_)
      refine hJ ((i + j) / 2 ^ 1 + 1, j) _ _ ⟨by dsimp only; omega, by dsimp only; omega, fun hG => ⟨fun q hq => ?_, (hg hG).2⟩⟩ (Sub.cons rfl (Sub.cons rfl (Sub.cons rfl (Sub.cons rfl (Sub.cons rfl (Sub.cons rfl Sub.nil)))))) sub_st (by dsimp only; omega)
      dsimp only at hq
      have h6 : keyC (C.getD k default) < keyC x := by rw [hy]; rw [← hr] at hr0; exact (ord_lt (by rw [← hy]; exact hG.2.1 k (by omega)) hG.1).1 hr0
      rcases Nat.lt_or_ge q k with h3 | h3
      · exact Int.lt_trans (hG.2.2 q k h3 (by omega)) h6
      · rw [show q = k by omega]; exact h6
    · skip
      focus (refine S_seq rfl ?_; refine S_seq rfl ?_; refine S_region rfl rfl ?_; refine R_p rfl ?_ rfl rfl; refine R_p rfl ?_ rfl rfl; refine R_take (T_decT rfl (by omega)) ?_ rfl rfl; refine R_nil ?_; refine S_true rfl rfl ?_; refine S_skip rfl ?_; refine S_block rfl ?_; refine S_seq rfl ?_; refine S_region rfl rfl ?_; refine R_p rfl ?_ rfl rfl; refine R_p rfl ?_ rfl rfl; refine R_take (T_addN rfl rfl (by unfold fits; omega)) ?_ rfl rfl; refine R_take (T_convf rfl rfl rfl rfl (by unfold fits; omega)) ?_ rfl rfl; refine R_take (T_shrN rfl rfl (by decide)) ?_ rfl rfl; refine R_take (T_convf rfl rfl rfl rfl (by unfold fits; omega)) ?_ rfl rfl; refine R_p rfl ?_ rfl rfl; refine R_nil ?_; refine S_seq rfl ?_)
      refine S_draw ([pt b4 73 (ctc x)]) sub_st (by kernel_rfl) rfl (by kernel_rfl) (by kernel_rfl : _ = 8) ?_
      refine D_take 0 rfl (pev_ok rfl) ?_ rfl rfl (by kernel_rfl) (by kernel_rfl)
      refine D_take 1 rfl (pev_ok rfl) ?_ rfl rfl (by kernel_rfl) (by kernel_rfl)
      refine D_take 2 rfl (pev_ok rfl) ?_ rfl rfl (by kernel_rfl) (by kernel_rfl)
      refine D_take 3 rfl (T_ixM (sz := 2) rfl rfl rfl rfl rfl rfl hne (by omega)) ?_ rfl rfl (by kernel_rfl) (by kernel_rfl)
      refine D_take 4 rfl (T_lda (ds := ctc y) rfl rfl rfl (Srd.old h (fun k _ => noOwns k)) rfl (by omega) hat) ?_ rfl rfl (by kernel_rfl) (by kernel_rfl)
      refine D_take 5 rfl (T_loads (ds := ctc x) rfl rfl rfl rfl rfl) ?_ rfl rfl (by kernel_rfl) (by kernel_rfl)
      refine D_one 6 rfl (E_cloA (cap := []) rfl (E_hv0 (f := 53) ⟨_, Try.func53, rfl, by kernel_rfl⟩ (fun w hS => order_any w y x) rfl rfl (fun _ => rfl))) ?_ rfl rfl (by kernel_rfl)
      rintro _ _ ⟨_, rfl, _, rfl⟩; rw [hr]
      refine Nx_same sub_st ?_
      refine D_take 7 rfl (T_decF rfl (by omega)) ?_ rfl rfl (by kernel_rfl) (by kernel_rfl)
      refine D_done ?_ (by kernel_rfl)
      skip
      focus (refine S_false rfl rfl ?_; refine S_region rfl rfl ?_; refine R_p rfl ?_ rfl rfl; refine R_p rfl ?_ rfl rfl; refine R_nil ?_; refine RS_blk ?_)
      refine hJ (i, (i + j) / 2 ^ 1) _ _ ⟨by dsimp only; omega, by dsimp only; omega, fun hG => ⟨(hg hG).1, fun q hq hqn => ?_⟩⟩ (Sub.cons rfl (Sub.cons rfl (Sub.cons rfl (Sub.cons rfl (Sub.cons rfl (Sub.cons rfl Sub.nil)))))) sub_st (by dsimp only; omega)
      dsimp only at hq
      have h6 : ¬ keyC (C.getD k default) < keyC x := by rw [hy]; rw [← hr] at hr0; exact fun h7 => hr0 ((ord_lt (by rw [← hy]; exact hG.2.1 k (by omega)) hG.1).2 h7)
      rcases Nat.eq_or_lt_of_le hq with h3 | h3
      · rw [show q = k by omega]; exact h6
      · exact fun h4 => h6 (Int.lt_trans (hG.2.2 k q (by omega) hqn) h4)
  have hij' : i = j := by omega
  subst hij'
  rcases Nat.lt_or_ge i n with hin | hin
  · have hne := hne (by omega)
    have hat := cellsL_at (f := ctc) ctc_len C default i (by omega)
    obtain ⟨y, hy⟩ : ∃ y, C.getD i default = y := ⟨_, rfl⟩
    rw [hy] at hat
    obtain ⟨r, hr⟩ : ∃ r, ordI y x = r := ⟨_, rfl⟩
    have hfin : GoodC C n x → (r = 0 ↔ i < n ∧ C.getD i default = x) := fun hG => by
      have h6 := ord_eq (x := y) (by rw [← hy]; exact hG.2.1 i hin) hG.1
      rw [← hr, h6, hy]
      exact ⟨fun h7 => ⟨hin, key_inj (by rw [← hy]; exact hG.2.1 i hin) hG.1 h7⟩, fun h7 => by rw [h7.2]⟩
    by_cases hr0 : r = 0
    · skip
      focus (refine S_seq rfl ?_; refine S_seq rfl ?_; refine S_region rfl rfl ?_; refine R_p rfl ?_ rfl rfl; refine R_p rfl ?_ rfl rfl; refine R_take (T_decF rfl (by omega)) ?_ rfl rfl; refine R_nil ?_; refine S_false rfl rfl ?_; refine S_exit rfl rfl ?_; refine S_seq rfl ?_)
      refine S_draw ([pt b4 73 (ctc x)]) sub_st (by kernel_rfl) rfl (by kernel_rfl) (by kernel_rfl : _ = 16) ?_
      refine D_take 0 rfl (pev_ok rfl) ?_ rfl rfl (by kernel_rfl) (by kernel_rfl)
      refine D_take 1 rfl (pev_ok rfl) ?_ rfl rfl (by kernel_rfl) (by kernel_rfl)
      refine D_take 2 rfl (pev_ok rfl) ?_ rfl rfl (by kernel_rfl) (by kernel_rfl)
      refine D_take 3 rfl (T_decT rfl (by omega)) ?_ rfl rfl (by kernel_rfl) (by kernel_rfl)
      refine D_take 4 rfl (pev_ok rfl) ?_ rfl rfl (by kernel_rfl) (by kernel_rfl)
      refine D_take 5 rfl (pev_ok rfl) ?_ rfl rfl (by kernel_rfl) (by kernel_rfl)
      refine D_take 6 rfl (pev_ok rfl) ?_ rfl rfl (by kernel_rfl) (by kernel_rfl)
      refine D_take 7 rfl (pev_ok rfl) ?_ rfl rfl (by kernel_rfl) (by kernel_rfl)
      refine D_take 8 rfl (T_ixM (sz := 2) rfl rfl rfl rfl rfl rfl hne hin) ?_ rfl rfl (by kernel_rfl) (by kernel_rfl)
      refine D_take 9 rfl (T_lda (ds := ctc y) rfl rfl rfl (Srd.old h (fun k _ => noOwns k)) rfl (by omega) hat) ?_ rfl rfl (by kernel_rfl) (by kernel_rfl)
      refine D_take 10 rfl (T_loads (ds := ctc x) rfl rfl rfl rfl rfl) ?_ rfl rfl (by kernel_rfl) (by kernel_rfl)
      refine D_one 11 rfl (E_cloA (cap := []) rfl (E_hv0 (f := 53) ⟨_, Try.func53, rfl, by kernel_rfl⟩ (fun w hS => order_any w y x) rfl rfl (fun _ => rfl))) ?_ rfl rfl (by kernel_rfl)
      rintro _ _ ⟨_, rfl, _, rfl⟩; rw [hr]
      refine Nx_same sub_st ?_
      refine D_take 12 rfl (T_decT rfl (by omega)) ?_ rfl rfl (by kernel_rfl) (by kernel_rfl)
      refine D_take 13 rfl (T_decT rfl (by omega)) ?_ rfl rfl (by kernel_rfl) (by kernel_rfl)
      refine D_take 14 rfl (pev_ok rfl) ?_ rfl rfl (by kernel_rfl) (by kernel_rfl)
      refine D_take 15 rfl (T_decT rfl (by omega)) ?_ rfl rfl (by kernel_rfl) (by kernel_rfl)
      refine D_done ?_ (by kernel_rfl)
      skip
      skip
      refine hB _ _ _ _ _ rfl rfl fun w' hS => ⟨(i, true), rfl, ⟨hjn, fun _ => hin, fun hG => ⟨(hg hG).1, (hg hG).2, ⟨fun _ => (hfin hG).1 hr0, fun _ => rfl⟩⟩⟩, hS.sublist (List.nil_sublist _)⟩
    · skip
      focus (refine S_seq rfl ?_; refine S_seq rfl ?_; refine S_region rfl rfl ?_; refine R_p rfl ?_ rfl rfl; refine R_p rfl ?_ rfl rfl; refine R_take (T_decF rfl (by omega)) ?_ rfl rfl; refine R_nil ?_; refine S_false rfl rfl ?_; refine S_exit rfl rfl ?_; refine S_seq rfl ?_)
      refine S_draw ([pt b4 73 (ctc x)]) sub_st (by kernel_rfl) rfl (by kernel_rfl) (by kernel_rfl : _ = 16) ?_
      refine D_take 0 rfl (pev_ok rfl) ?_ rfl rfl (by kernel_rfl) (by kernel_rfl)
      refine D_take 1 rfl (pev_ok rfl) ?_ rfl rfl (by kernel_rfl) (by kernel_rfl)
      refine D_take 2 rfl (pev_ok rfl) ?_ rfl rfl (by kernel_rfl) (by kernel_rfl)
      refine D_take 3 rfl (T_decT rfl (by omega)) ?_ rfl rfl (by kernel_rfl) (by kernel_rfl)
      refine D_take 4 rfl (pev_ok rfl) ?_ rfl rfl (by kernel_rfl) (by kernel_rfl)
      refine D_take 5 rfl (pev_ok rfl) ?_ rfl rfl (by kernel_rfl) (by kernel_rfl)
      refine D_take 6 rfl (pev_ok rfl) ?_ rfl rfl (by kernel_rfl) (by kernel_rfl)
      refine D_take 7 rfl (pev_ok rfl) ?_ rfl rfl (by kernel_rfl) (by kernel_rfl)
      refine D_take 8 rfl (T_ixM (sz := 2) rfl rfl rfl rfl rfl rfl hne hin) ?_ rfl rfl (by kernel_rfl) (by kernel_rfl)
      refine D_take 9 rfl (T_lda (ds := ctc y) rfl rfl rfl (Srd.old h (fun k _ => noOwns k)) rfl (by omega) hat) ?_ rfl rfl (by kernel_rfl) (by kernel_rfl)
      refine D_take 10 rfl (T_loads (ds := ctc x) rfl rfl rfl rfl rfl) ?_ rfl rfl (by kernel_rfl) (by kernel_rfl)
      refine D_one 11 rfl (E_cloA (cap := []) rfl (E_hv0 (f := 53) ⟨_, Try.func53, rfl, by kernel_rfl⟩ (fun w hS => order_any w y x) rfl rfl (fun _ => rfl))) ?_ rfl rfl (by kernel_rfl)
      rintro _ _ ⟨_, rfl, _, rfl⟩; rw [hr]
      refine Nx_same sub_st ?_
      refine D_take 12 rfl (T_decF rfl (by omega)) ?_ rfl rfl (by kernel_rfl) (by kernel_rfl)
      refine D_take 13 rfl (pev_ok rfl) ?_ rfl rfl (by kernel_rfl) (by kernel_rfl)
      refine D_take 14 rfl (pev_ok rfl) ?_ rfl rfl (by kernel_rfl) (by kernel_rfl)
      refine D_take 15 rfl (pev_ok rfl) ?_ rfl rfl (by kernel_rfl) (by kernel_rfl)
      refine D_done ?_ (by kernel_rfl)
      skip
      skip
      refine hB _ _ _ _ _ rfl rfl fun w' hS => ⟨(i, false), rfl, ⟨hjn, fun h => (by cases h), fun hG => ⟨(hg hG).1, (hg hG).2, ⟨fun h => (by cases h), fun h => absurd ((hfin hG).2 h) hr0⟩⟩⟩, hS.sublist (List.nil_sublist _)⟩
  focus (refine S_seq rfl ?_; refine S_seq rfl ?_; refine S_region rfl rfl ?_; refine R_p rfl ?_ rfl rfl; refine R_p rfl ?_ rfl rfl; refine R_take (T_decF rfl (by omega)) ?_ rfl rfl; refine R_nil ?_; refine S_false rfl rfl ?_; refine S_exit rfl rfl ?_; refine S_seq rfl ?_)
  refine S_draw ([pt b4 73 (ctc x)]) sub_st (by kernel_rfl) rfl (by kernel_rfl) (by kernel_rfl : _ = 16) ?_
  refine D_take 0 rfl (pev_ok rfl) ?_ rfl rfl (by kernel_rfl) (by kernel_rfl)
  refine D_take 1 rfl (pev_ok rfl) ?_ rfl rfl (by kernel_rfl) (by kernel_rfl)
  refine D_take 2 rfl (pev_ok rfl) ?_ rfl rfl (by kernel_rfl) (by kernel_rfl)
  refine D_take 3 rfl (T_decF rfl (by omega)) ?_ rfl rfl (by kernel_rfl) (by kernel_rfl)
  refine D_take 4 rfl (pev_ok rfl) ?_ rfl rfl (by kernel_rfl) (by kernel_rfl)
  refine D_skip 5 rfl ?_ rfl rfl (by kernel_rfl) (by kernel_rfl)
  refine D_skip 6 rfl ?_ rfl rfl (by kernel_rfl) (by kernel_rfl)
  refine D_skip 7 rfl ?_ rfl rfl (by kernel_rfl) (by kernel_rfl)
  refine D_skip 8 rfl ?_ rfl rfl (by kernel_rfl) (by kernel_rfl)
  refine D_skip 9 rfl ?_ rfl rfl (by kernel_rfl) (by kernel_rfl)
  refine D_skip 10 rfl ?_ rfl rfl (by kernel_rfl) (by kernel_rfl)
  refine D_skip 11 rfl ?_ rfl rfl (by kernel_rfl) (by kernel_rfl)
  refine D_skip 12 rfl ?_ rfl rfl (by kernel_rfl) (by kernel_rfl)
  refine D_take 13 rfl (pev_ok rfl) ?_ rfl rfl (by kernel_rfl) (by kernel_rfl)
  refine D_take 14 rfl (pev_ok rfl) ?_ rfl rfl (by kernel_rfl) (by kernel_rfl)
  refine D_take 15 rfl (pev_ok rfl) ?_ rfl rfl (by kernel_rfl) (by kernel_rfl)
  refine D_done ?_ (by kernel_rfl)
  skip
  skip
  refine hB _ _ _ _ _ rfl rfl fun w' hS => ⟨(i, false), rfl, ⟨hjn, fun h => (by cases h), fun hG => ⟨(hg hG).1, (hg hG).2, ⟨fun h => (by cases h), fun h => absurd h.1 (by omega)⟩⟩⟩, hS.sublist (List.nil_sublist _)⟩
end Go.Proofs.Ytclmaoagdkhboaa
