/- A row searched. -/
import Derived.Test.YtebbnbddlnpldaaPm8
import Derived.Test.YtebbnbddlnpldaaPm7
namespace Go.Proofs.Ytebbnbddlnpldaa
open Go.RowKit
open Asn (pt row rb)
set_option linter.unusedVariables false
set_option linter.unusedSimpArgs false
--@use N

theorem T_shrN {P : Program} {n : Nat} {w0 : World} {M : Nat → Prop} {T : Slots} {H : List Asn} {dd : Option Tmp} {tt : TypeId} {pos : String} {af : Array Edge} {g : Option (Nat × Bool)} {x y : Operand} {t u : TypeId} {kk kj : IntKind} {i j : Int} {p q : Nat} (hx : oget T x = some (.int kk i)) (hy : oget T y = some (.int kj j)) [hi : NatOf i p] [hj : NatOf j q] (hq : q ≤ kk.bits) :
    Tk P n w0 M T H ⟨dd, .binOp .shr t x y u, tt, pos, af, g⟩ (.int kk ((p / 2 ^ q : Nat) : Int)) := by
  rw [hi.is] at hx
  rw [hj.is] at hy
  have h := T_shr (P := P) (n := n) (w0 := w0) (M := M) (H := H) (dd := dd) (tt := tt) (pos := pos) (af := af) (g := g) (t := t) (u := u) hx hy (by omega)
  have e : Int.fdiv (p : Int) (2 ^ (min ((q : Int)).toNat kk.bits)) = ((p / 2 ^ q : Nat) : Int) := by
    have e1 : min ((q : Int)).toNat kk.bits = q := by rw [Int.toNat_natCast]; omega
    rw [e1, Int.fdiv_eq_ediv_of_nonneg _ (Int.le_of_lt (Int.pow_pos (by decide))), Int.natCast_ediv, Int.natCast_pow]
    rfl
  rwa [e] at h
set_option maxRecDepth 100000 in
set_option maxHeartbeats 4000000 in
theorem binf_any (w : World) (A : Option Addr) (n c : Nat) (L : List Rw) (s : Str) (h : Rd w All 2 A n (cellsL rwc L)) (hn : n ≤ 1000) (hu : Srt (·.1) L) :
    Gives Try.prog 30 [.slice A n c, sv s, .func (.func 31) #[] #[]] [] w (X := Nat) (fun i => .tuple #[.int .i64 (i : Int), .bool (thereR L s)]) (fun i => i ≤ L.length ∧ lo (·.1) L s = L.take i ∧ (thereR L s = true → i < L.length ∧ (L.getD i default).1 = s) ∧ (thereR L s = false → hi (·.1) L s = L.drop i)) (fun _ => []) := by
  refine gives_S Try.func30 rfl Try.ntmps30 Try.results30 (by simp) (St.enter w) (fun B hB => ?_)
  have hl : L.length = n := by have := h.1; rw [cellsL_len rwc_len] at this; omega
  have hne : 0 < n → A ≠ none := fun h0 => by obtain ⟨ad, rfl, _⟩ := h.2 h0; simp
  subst hl
  focus (refine S_seq rfl ?_; refine S_region rfl rfl ?_; refine R_p rfl ?_ rfl rfl; refine R_p rfl ?_ rfl rfl; refine R_nil ?_; refine S_seq rfl ?_; refine S_region rfl rfl ?_; refine R_p rfl ?_ rfl rfl; refine R_p rfl ?_ rfl rfl; refine R_p rfl ?_ rfl rfl; refine R_nil ?_; refine S_seq rfl ?_; refine S_region rfl rfl ?_; refine R_p rfl ?_ rfl rfl; refine R_p rfl ?_ rfl rfl; refine R_p rfl ?_ rfl rfl; refine R_nil ?_; refine S_seq rfl ?_; refine S_block rfl ?_)
  refine S_loop (X := Nat × Nat) (fun q => [(0, .slice A L.length c), (1, sv s), (2, .func (.func 31) #[] #[]), (8, .int .i64 (L.length : Int)), (9, .int .i64 (q.1 : Int)), (10, .int .i64 (q.2 : Int))]) (fun _ => []) (fun q => q.1 ≤ q.2 ∧ q.2 ≤ L.length ∧ (∀ k, k < q.1 → (L.getD k default).1 < s) ∧ ∀ k, q.2 ≤ k → k < L.length → ¬ (L.getD k default).1 < s) (fun q => q.2 - q.1) rfl (0, L.length) ⟨Nat.zero_le _, Nat.le_refl _, fun k hk => by omega, fun k h1 h2 => by dsimp only at h1; omega⟩ (Sub.cons rfl (Sub.cons rfl (Sub.cons rfl (Sub.cons rfl (Sub.cons rfl (Sub.cons rfl Sub.nil)))))) (fun _ h => h) ?_
  rintro ⟨i, j⟩ ⟨hij, hjn, h1, h2⟩ J hJ
  dsimp only at hij hjn h1 h2 ⊢
  have hkey : ∀ p q, p < q → q < L.length → (L.getD p default).1 < (L.getD q default).1 := fun p q hpq hq => by
    have := List.pairwise_iff_getElem.1 hu p q (by omega) hq hpq
    simpa [List.getD, hq, show p < L.length by omega] using this
  rcases Nat.lt_or_ge i j with hlt | hlt
  · have hne := hne (by omega)
    obtain ⟨k, hk⟩ : ∃ k, (i + j) / 2 ^ 1 = k := ⟨_, rfl⟩
    have hkj : k < j := by omega
    have hki : i ≤ k := by omega
    have hat := cellsL_at (f := rwc) rwc_len L default k (by omega)
    have hk2 := fun q (a : q < k) => hkey q k a (by omega)
    have hk3 := fun q (a : k < q) b => hkey k q a b
    obtain ⟨x, hx⟩ : ∃ x, L.getD k default = x := ⟨_, rfl⟩
    rw [hx] at hat hk2 hk3
    have hat : ∀ e v, (rwc x)[e]? = some v → (cellsL rwc L)[(i + j) / 2 ^ 1 * 2 + e]? = some v := by rw [hk]; exact hat
    obtain ⟨r, hr⟩ : ∃ r, cmpS x.1 s = r := ⟨_, rfl⟩
    by_cases hxs : x.1 < s
    · have hr0 := cmp_lt hxs
      rw [hr] at hr0
      focus (refine S_seq rfl ?_; refine S_seq rfl ?_; refine S_region rfl rfl ?_; refine R_p rfl ?_ rfl rfl; refine R_p rfl ?_ rfl rfl; refine R_take (T_decT rfl (by omega)) ?_ rfl rfl; refine R_nil ?_; refine S_true rfl rfl ?_; refine S_skip rfl ?_; refine S_block rfl ?_; refine S_seq rfl ?_; refine S_region rfl rfl ?_; refine R_p rfl ?_ rfl rfl; refine R_p rfl ?_ rfl rfl; refine R_take (T_addN rfl rfl (by unfold fits; omega)) ?_ rfl rfl; refine R_take (T_convf rfl rfl rfl rfl (by unfold fits; omega)) ?_ rfl rfl; refine R_take (T_shrN rfl rfl (by decide)) ?_ rfl rfl; refine R_take (T_convf rfl rfl rfl rfl (by unfold fits; omega)) ?_ rfl rfl; refine R_p rfl ?_ rfl rfl; refine R_nil ?_; refine S_seq rfl ?_; refine S_region rfl rfl ?_; refine R_p rfl ?_ rfl rfl; refine R_p rfl ?_ rfl rfl; refine R_p rfl ?_ rfl rfl; refine R_take (T_ixM (sz := 2) rfl rfl rfl rfl rfl rfl hne (by omega)) ?_ rfl rfl; refine R_take (T_lda (ds := rwc x) rfl rfl rfl (Srd.old h (fun k _ => noOwns k)) rfl (by omega) hat) ?_ rfl rfl; refine R_p rfl ?_ rfl rfl; (refine R_eff (E_cmpR (a := x) rfl rfl rfl hr) ?_ rfl rfl; rintro _ _ ⟨rfl, rfl⟩); refine R_take (T_decT rfl (by omega)) ?_ rfl rfl; refine R_nil ?_; refine S_true rfl rfl ?_; refine S_region rfl rfl ?_; refine R_p rfl ?_ rfl rfl; refine R_take (T_addN rfl rfl (by unfold fits; omega)) ?_ rfl rfl; refine R_p rfl ?_ rfl rfl; refine R_nil ?_; refine RS_blk ?_)
      refine hJ ((i + j) / 2 ^ 1 + 1, j) _ _ ⟨by dsimp only; omega, by dsimp only; omega, fun q hq => ?_, h2⟩ (Sub.cons rfl (Sub.cons rfl (Sub.cons rfl (Sub.cons rfl (Sub.cons rfl (Sub.cons rfl Sub.nil)))))) (fun _ h => h) (by dsimp only; omega)
      dsimp only at hq
      rcases Nat.lt_or_ge q k with h3 | h3
      · exact sl_tr (hk2 q h3) hxs
      · rw [show q = k by omega, hx]; exact hxs
    · have hr0 := cmp_ge hxs
      rw [hr] at hr0
      focus (refine S_seq rfl ?_; refine S_seq rfl ?_; refine S_region rfl rfl ?_; refine R_p rfl ?_ rfl rfl; refine R_p rfl ?_ rfl rfl; refine R_take (T_decT rfl (by omega)) ?_ rfl rfl; refine R_nil ?_; refine S_true rfl rfl ?_; refine S_skip rfl ?_; refine S_block rfl ?_; refine S_seq rfl ?_; refine S_region rfl rfl ?_; refine R_p rfl ?_ rfl rfl; refine R_p rfl ?_ rfl rfl; refine R_take (T_addN rfl rfl (by unfold fits; omega)) ?_ rfl rfl; refine R_take (T_convf rfl rfl rfl rfl (by unfold fits; omega)) ?_ rfl rfl; refine R_take (T_shrN rfl rfl (by decide)) ?_ rfl rfl; refine R_take (T_convf rfl rfl rfl rfl (by unfold fits; omega)) ?_ rfl rfl; refine R_p rfl ?_ rfl rfl; refine R_nil ?_; refine S_seq rfl ?_; refine S_region rfl rfl ?_; refine R_p rfl ?_ rfl rfl; refine R_p rfl ?_ rfl rfl; refine R_p rfl ?_ rfl rfl; refine R_take (T_ixM (sz := 2) rfl rfl rfl rfl rfl rfl hne (by omega)) ?_ rfl rfl; refine R_take (T_lda (ds := rwc x) rfl rfl rfl (Srd.old h (fun k _ => noOwns k)) rfl (by omega) hat) ?_ rfl rfl; refine R_p rfl ?_ rfl rfl; (refine R_eff (E_cmpR (a := x) rfl rfl rfl hr) ?_ rfl rfl; rintro _ _ ⟨rfl, rfl⟩); refine R_take (T_decF rfl (by omega)) ?_ rfl rfl; refine R_nil ?_; refine S_false rfl rfl ?_; refine S_region rfl rfl ?_; refine R_p rfl ?_ rfl rfl; refine R_p rfl ?_ rfl rfl; refine R_nil ?_; refine RS_blk ?_)
      refine hJ (i, (i + j) / 2 ^ 1) _ _ ⟨by dsimp only; omega, by dsimp only; omega, h1, fun q hq hqn => ?_⟩ (Sub.cons rfl (Sub.cons rfl (Sub.cons rfl (Sub.cons rfl (Sub.cons rfl (Sub.cons rfl Sub.nil)))))) (fun _ h => h) (by dsimp only; omega)
      dsimp only at hq
      rcases Nat.eq_or_lt_of_le hq with h3 | h3
      · rw [show q = k by omega, hx]; exact hxs
      · exact fun h4 => hxs (sl_tr (hk3 q (by omega) hqn) h4)
  have hij' : i = j := by omega
  subst hij'
  have hlo := cut_at hjn h1 h2
  rcases Nat.lt_or_ge i L.length with hin | hin
  · have hne := hne (by omega)
    have hat := cellsL_at (f := rwc) rwc_len L default i (by omega)
    obtain ⟨x, hx⟩ : ∃ x, L.getD i default = x := ⟨_, rfl⟩
    rw [hx] at hat
    obtain ⟨r, hr⟩ : ∃ r, cmpS x.1 s = r := ⟨_, rfl⟩
    by_cases hxs : x.1 = s
    · have hr0 := cmp_eq hxs
      rw [hr] at hr0
      have hth := (cut_there (s := s) hu hin (by rw [hx]; exact hxs)).2
      focus (refine S_seq rfl ?_; refine S_seq rfl ?_; refine S_region rfl rfl ?_; refine R_p rfl ?_ rfl rfl; refine R_p rfl ?_ rfl rfl; refine R_take (T_decF rfl (by omega)) ?_ rfl rfl; refine R_nil ?_; refine S_false rfl rfl ?_; refine S_exit rfl rfl ?_; refine S_seq rfl ?_; refine S_region rfl rfl ?_; refine R_p rfl ?_ rfl rfl; refine R_p rfl ?_ rfl rfl; refine R_p rfl ?_ rfl rfl; refine R_take (T_decT rfl (by omega)) ?_ rfl rfl; refine R_p rfl ?_ rfl rfl; refine R_p rfl ?_ rfl rfl; refine R_p rfl ?_ rfl rfl; refine R_p rfl ?_ rfl rfl; refine R_take (T_ixM (sz := 2) rfl rfl rfl rfl rfl rfl hne hin) ?_ rfl rfl; refine R_take (T_lda (ds := rwc x) rfl rfl rfl (Srd.old h (fun k _ => noOwns k)) rfl (by omega) hat) ?_ rfl rfl; refine R_p rfl ?_ rfl rfl; (refine R_eff (E_cmpR (a := x) rfl rfl rfl hr) ?_ rfl rfl; rintro _ _ ⟨rfl, rfl⟩); refine R_take (T_decT rfl (by omega)) ?_ rfl rfl; refine R_p rfl ?_ rfl rfl; refine R_p rfl ?_ rfl rfl; refine R_p rfl ?_ rfl rfl; refine R_nil ?_)
      refine hB _ _ _ _ _ rfl rfl fun w' hS => ⟨i, by rw [hth]; rfl, ⟨hjn, hlo, fun _ => ⟨hin, by rw [hx]; exact hxs⟩, fun h => (by rw [hth] at h; cases h)⟩, hS.sublist (List.nil_sublist _)⟩
    · have hr0 := cmp_ne hxs
      rw [hr] at hr0
      have hth := cut_hi (s := s) hu hjn h1 h2 (fun _ => by rw [hx]; exact hxs)
      focus (refine S_seq rfl ?_; refine S_seq rfl ?_; refine S_region rfl rfl ?_; refine R_p rfl ?_ rfl rfl; refine R_p rfl ?_ rfl rfl; refine R_take (T_decF rfl (by omega)) ?_ rfl rfl; refine R_nil ?_; refine S_false rfl rfl ?_; refine S_exit rfl rfl ?_; refine S_seq rfl ?_; refine S_region rfl rfl ?_; refine R_p rfl ?_ rfl rfl; refine R_p rfl ?_ rfl rfl; refine R_p rfl ?_ rfl rfl; refine R_take (T_decT rfl (by omega)) ?_ rfl rfl; refine R_p rfl ?_ rfl rfl; refine R_p rfl ?_ rfl rfl; refine R_p rfl ?_ rfl rfl; refine R_p rfl ?_ rfl rfl; refine R_take (T_ixM (sz := 2) rfl rfl rfl rfl rfl rfl hne hin) ?_ rfl rfl; refine R_take (T_lda (ds := rwc x) rfl rfl rfl (Srd.old h (fun k _ => noOwns k)) rfl (by omega) hat) ?_ rfl rfl; refine R_p rfl ?_ rfl rfl; (refine R_eff (E_cmpR (a := x) rfl rfl rfl hr) ?_ rfl rfl; rintro _ _ ⟨rfl, rfl⟩); refine R_take (T_decF rfl (by omega)) ?_ rfl rfl; refine R_p rfl ?_ rfl rfl; refine R_p rfl ?_ rfl rfl; refine R_p rfl ?_ rfl rfl; refine R_nil ?_)
      refine hB _ _ _ _ _ rfl rfl fun w' hS => ⟨i, by rw [hth.2]; rfl, ⟨hjn, hlo, fun h => (by rw [hth.2] at h; cases h), fun _ => hth.1⟩, hS.sublist (List.nil_sublist _)⟩
  have hth := cut_hi (s := s) hu hjn h1 h2 (fun h => absurd h (by omega))
  focus (refine S_seq rfl ?_; refine S_seq rfl ?_; refine S_region rfl rfl ?_; refine R_p rfl ?_ rfl rfl; refine R_p rfl ?_ rfl rfl; refine R_take (T_decF rfl (by omega)) ?_ rfl rfl; refine R_nil ?_; refine S_false rfl rfl ?_; refine S_exit rfl rfl ?_; refine S_seq rfl ?_; refine S_region rfl rfl ?_; refine R_p rfl ?_ rfl rfl; refine R_p rfl ?_ rfl rfl; refine R_p rfl ?_ rfl rfl; refine R_take (T_decF rfl (by omega)) ?_ rfl rfl; refine R_p rfl ?_ rfl rfl; refine R_skip ?_ rfl rfl; refine R_skip ?_ rfl rfl; refine R_skip ?_ rfl rfl; refine R_skip ?_ rfl rfl; refine R_skip ?_ rfl rfl; refine R_skip ?_ rfl rfl; refine R_skip ?_ rfl rfl; refine R_skip ?_ rfl rfl; refine R_p rfl ?_ rfl rfl; refine R_p rfl ?_ rfl rfl; refine R_p rfl ?_ rfl rfl; refine R_nil ?_)
  refine hB _ _ _ _ _ rfl rfl fun w' hS => ⟨i, by rw [hth.2]; rfl, ⟨hjn, hlo, fun h => (by rw [hth.2] at h; cases h), fun _ => hth.1⟩, hS.sublist (List.nil_sublist _)⟩
end Go.Proofs.Ytebbnbddlnpldaa
