/- The document's Splice. -/
import Derived.Test.YtkdpfnaaopimoaaLgL
namespace Go.Proofs.Ytkdpfnaaopimoaa
open Go.RowKit
open Asn (pt row rb)
set_option linter.unusedVariables false
set_option linter.unusedSimpArgs false
--@use N

theorem risingD_k (w : World) (A : Option Addr) (c k : Nat) (Q : List Em) (l : List En) (t : Nat) (hk : Q.length = k) (hl : Q.map emv = l) (h : Rd w All 3 A k (cellsL emc Q)) (hn : k ≤ 100000) (r : Bool) (hr : risingB l t = r) :
    Gives Try.prog 45 [.slice A k c, .int .u64 (t : Int)] [] w (X := Unit) (fun _ => .bool r) (fun _ => True) (fun _ => []) := by
  subst hk
  subst hl
  subst hr
  exact risingD_any w A c Q t h hn
theorem T_subE {P : Program} {n : Nat} {w0 : World} {M : Nat → Prop} {T : Slots} {H : List Asn} {dd : Option Tmp} {tt : TypeId} {pos : String} {af : Array Edge} {g : Option (Nat × Bool)} {x y : Operand} {t u : TypeId} {kk : IntKind} {i j : Int} {p q r : Nat} (h : p - q = r) (hx : oget T x = some (.int kk i)) (hy : oget T y = some (.int kk j)) [hi : NatOf i p] [hj : NatOf j q] (hq : q ≤ p) (hf : fits kk ((p - q : Nat) : Int)) : Tk P n w0 M T H ⟨dd, .binOp .sub t x y u, tt, pos, af, g⟩ (.int kk (r : Int)) := by
  have := T_subN (P := P) (n := n) (w0 := w0) (M := M) (H := H) (dd := dd) (tt := tt) (pos := pos) (af := af) (g := g) (t := t) (u := u) hx hy hq hf
  rwa [h] at this
theorem ahead_place (a : At) (l : List En) (n : Nat) : aheadT a l n = (placeN a l n).2 := by
  unfold aheadT placeN
  by_cases h0 : n = 0
  · rw [if_pos h0, if_neg (by omega)]
  · rw [if_neg h0, if_pos (by omega)]
set_option maxRecDepth 100000 in
set_option maxHeartbeats 4000000 in
theorem spliceD_any (w : World) (a : At) (A : Option Addr) (c k : Nat) (Q : List Em) (l : List En) (hk : Q.length = k) (hl : Q.map emv = l) (h : Rd w All 3 A k (cellsL emc Q)) (hd : RDt w All (Q.map emd)) (hc : k ≤ c) (p : At) (A2 : Option Addr) (cE k2 : Nat) (E : List Em) (es : List En) (hk2 : E.length = k2) (hl2 : E.map emv = es) (h2 : Rd w All 3 A2 k2 (cellsL emc E)) (hd2 : RDt w All (E.map emd)) (hcE : k2 ≤ cE) (hn2 : k2 ≤ 1000) (hkk : ∀ m ∈ Q, m.2.2.2.2.length ≤ 100000) (hkk2 : ∀ m ∈ E, m.2.2.2.2.length ≤ 100000) (hr0 : rightB a l = true) (e : Int) (last : Nat) (b : At) (r : List En) (K : Nat) (hK : r.length = K) (hs : spl a l p es = (e, last, b, r)) :
    Gives Try.prog 17 [.agg (lgc a A k c).toArray, .agg (atc p).toArray, .slice A2 k2 cE] [] w (X := (Option Addr × Nat) × Sh r) (fun x => .tuple #[.agg (lgc b x.1.1 K x.1.2).toArray, .int .u64 (last : Int), zi e]) (fun _ => True) (fun x => [row 44 3 x.1.1 K x.1.2 (cellsL emc x.2.1), dtB 5 (x.2.1.map emd)]) := by
  refine gives_C Try.func17 rfl Try.ntmps17 Try.results17 (by simp) (St.enter w) (fun B hB => ?_)
  obtain ⟨i, t⟩ := a
  obtain ⟨pi, pu⟩ := p
  have hll : l.length = k := by rw [← hl, List.length_map, hk]
  have hel : es.length = k2 := by rw [← hl2, List.length_map, hk2]
  have hff := right_fits hr0
  rw [hll] at hff
  have hff : k ≤ 16 ∧ i + k ≤ 18446744073709551614 := hff
  have hfit : (i, t).1 + k ≤ 18446744073709551615 := by show i + k ≤ _; omega
  obtain ⟨rs, hrs⟩ : ∃ r, risingB es pu = r := ⟨_, rfl⟩
  obtain ⟨q0, hh0⟩ : ∃ q, hasB (i, t) l (pi, pu) = q := ⟨_, rfl⟩
  have hla2 : lastA (i, t) l = (i + k, (lastA (i, t) l).2) := by rw [lastA, hll]
  obtain ⟨lt, hla⟩ : ∃ x, (lastA (i, t) l).2 = x := ⟨_, rfl⟩
  rw [hla] at hla2
  have hla := hla2
  clear hla2
  have harg : ¬ (pi ≤ 18446744073709551614 ∧ es.length ≤ 18446744073709551614 - pi ∧ rs = true) → spl (i, t) l (pi, pu) es = (2, 0, (0, 0), []) := fun hno => by
    unfold spl
    rw [if_pos hr0, if_neg (by rw [hrs]; exact hno)]
  by_cases hp1 : 18446744073709551614 < pi
  · rw [harg (by omega)] at hs
    injection hs with e1 e2
    injection e2 with e2 e3
    injection e3 with e3 e4
    subst e1 e2 e3 e4 hK
    focus (refine S_seq rfl ?_; refine S_region rfl rfl ?_; (refine R_eff (E_boxa (cs := lgc (i, t) A k c) rfl) ?_ rfl rfl; rintro _ _ ⟨b3, rfl, rfl⟩); (refine R_eff (E_boxa (cs := atc (pi, pu)) rfl) ?_ rfl rfl; rintro _ _ ⟨b4, rfl, rfl⟩); (refine R_eff (E_alloca rfl lg_zero) ?_ rfl rfl; rintro _ _ ⟨b6, rfl, rfl⟩); refine R_p rfl ?_ rfl rfl; refine R_p rfl ?_ rfl rfl; refine R_nil ?_; refine S_seq rfl ?_; refine S_seq rfl ?_; refine S_region rfl rfl ?_; refine R_p rfl ?_ rfl rfl; refine R_take (T_load rfl rfl rfl rfl) ?_ rfl rfl; refine R_take (T_decT rfl (by omega)) ?_ rfl rfl; refine R_p rfl ?_ rfl rfl; refine R_skip ?_ rfl rfl; refine R_skip ?_ rfl rfl; refine R_skip ?_ rfl rfl; refine R_skip ?_ rfl rfl; refine R_skip ?_ rfl rfl; refine R_skip ?_ rfl rfl; refine R_skip ?_ rfl rfl; refine R_p rfl ?_ rfl rfl; refine R_p rfl ?_ rfl rfl; refine R_skip ?_ rfl rfl; refine R_skip ?_ rfl rfl; refine R_skip ?_ rfl rfl; refine R_skip ?_ rfl rfl; refine R_skip ?_ rfl rfl; refine R_p rfl ?_ rfl rfl; refine R_nil ?_; refine S_true rfl rfl ?_; refine S_seq rfl ?_; refine S_region rfl rfl ?_; refine R_take (T_build0 lg_built0) ?_ rfl rfl; (refine R_eff0 (E_storew (cs := lgc (0, 0) none 0 0) (ds := lgc (0, 0) none 0 0) rfl rfl rfl rfl (lgc_one _ _ _ _) rfl) ?_ rfl; rintro _ _ rfl); refine R_p rfl ?_ rfl rfl; refine R_p rfl ?_ rfl rfl; refine R_nil ?_)
    refine hB _ _ _ _ _ rfl (.cell rfl rfl rfl inferInstance rfl (.tmp rfl (.tmp rfl .nil))) fun w' hS => ⟨((none, 0), ⟨[], rfl, fun m hm => absurd hm (by simp)⟩), rfl, trivial, dtB_nil2 (hS.sublist (List.nil_sublist _))⟩
  by_cases hp2 : 18446744073709551614 - pi < k2
  · rw [harg (by omega)] at hs
    injection hs with e1 e2
    injection e2 with e2 e3
    injection e3 with e3 e4
    subst e1 e2 e3 e4 hK
    focus (refine S_seq rfl ?_; refine S_region rfl rfl ?_; (refine R_eff (E_boxa (cs := lgc (i, t) A k c) rfl) ?_ rfl rfl; rintro _ _ ⟨b3, rfl, rfl⟩); (refine R_eff (E_boxa (cs := atc (pi, pu)) rfl) ?_ rfl rfl; rintro _ _ ⟨b4, rfl, rfl⟩); (refine R_eff (E_alloca rfl lg_zero) ?_ rfl rfl; rintro _ _ ⟨b6, rfl, rfl⟩); refine R_p rfl ?_ rfl rfl; refine R_p rfl ?_ rfl rfl; refine R_nil ?_; refine S_seq rfl ?_; refine S_seq rfl ?_; refine S_region rfl rfl ?_; refine R_p rfl ?_ rfl rfl; refine R_take (T_load rfl rfl rfl rfl) ?_ rfl rfl; refine R_take (T_decF rfl (by omega)) ?_ rfl rfl; refine R_p rfl ?_ rfl rfl; refine R_p rfl ?_ rfl rfl; refine R_p rfl ?_ rfl rfl; refine R_take (T_convf rfl rfl rfl rfl (by unfold fits; omega)) ?_ rfl rfl; refine R_p rfl ?_ rfl rfl; refine R_take (T_load rfl rfl rfl rfl) ?_ rfl rfl; refine R_take (T_subN rfl rfl (by omega) (by unfold fits; omega)) ?_ rfl rfl; refine R_take (T_decT rfl (by omega)) ?_ rfl rfl; refine R_p rfl ?_ rfl rfl; refine R_p rfl ?_ rfl rfl; refine R_skip ?_ rfl rfl; refine R_skip ?_ rfl rfl; refine R_skip ?_ rfl rfl; refine R_skip ?_ rfl rfl; refine R_skip ?_ rfl rfl; refine R_p rfl ?_ rfl rfl; refine R_nil ?_; refine S_true rfl rfl ?_; refine S_seq rfl ?_; refine S_region rfl rfl ?_; refine R_take (T_build0 lg_built0) ?_ rfl rfl; (refine R_eff0 (E_storew (cs := lgc (0, 0) none 0 0) (ds := lgc (0, 0) none 0 0) rfl rfl rfl rfl (lgc_one _ _ _ _) rfl) ?_ rfl; rintro _ _ rfl); refine R_p rfl ?_ rfl rfl; refine R_p rfl ?_ rfl rfl; refine R_nil ?_)
    refine hB _ _ _ _ _ rfl (.cell rfl rfl rfl inferInstance rfl (.tmp rfl (.tmp rfl .nil))) fun w' hS => ⟨((none, 0), ⟨[], rfl, fun m hm => absurd hm (by simp)⟩), rfl, trivial, dtB_nil2 (hS.sublist (List.nil_sublist _))⟩
  cases rs
  · rw [harg (by simp)] at hs
    injection hs with e1 e2
    injection e2 with e2 e3
    injection e3 with e3 e4
    subst e1 e2 e3 e4 hK
    focus (refine S_seq rfl ?_; refine S_region rfl rfl ?_; (refine R_eff (E_boxa (cs := lgc (i, t) A k c) rfl) ?_ rfl rfl; rintro _ _ ⟨b3, rfl, rfl⟩); (refine R_eff (E_boxa (cs := atc (pi, pu)) rfl) ?_ rfl rfl; rintro _ _ ⟨b4, rfl, rfl⟩); (refine R_eff (E_alloca rfl lg_zero) ?_ rfl rfl; rintro _ _ ⟨b6, rfl, rfl⟩); refine R_p rfl ?_ rfl rfl; refine R_p rfl ?_ rfl rfl; refine R_nil ?_; refine S_seq rfl ?_; refine S_seq rfl ?_; refine S_region rfl rfl ?_; refine R_p rfl ?_ rfl rfl; refine R_take (T_load rfl rfl rfl rfl) ?_ rfl rfl; refine R_take (T_decF rfl (by omega)) ?_ rfl rfl; refine R_p rfl ?_ rfl rfl; refine R_p rfl ?_ rfl rfl; refine R_p rfl ?_ rfl rfl; refine R_take (T_convf rfl rfl rfl rfl (by unfold fits; omega)) ?_ rfl rfl; refine R_p rfl ?_ rfl rfl; refine R_take (T_load rfl rfl rfl rfl) ?_ rfl rfl; refine R_take (T_subN rfl rfl (by omega) (by unfold fits; omega)) ?_ rfl rfl; refine R_take (T_decF rfl (by omega)) ?_ rfl rfl; refine R_p rfl ?_ rfl rfl; refine R_p rfl ?_ rfl rfl; refine R_p rfl ?_ rfl rfl; refine R_p rfl ?_ rfl rfl; refine R_take (T_load rfl rfl rfl rfl) ?_ rfl rfl; ((refine R_eff (E_hv0 (f := 45) ⟨_, Try.func45, rfl, by kernel_rfl⟩ (fun w hS => risingD_k w A2 cE k2 E es pu hk2 hl2 ((Srd.old h2 (fun k _ => noOwns k)).rd w hS) (by omega) _ hrs) rfl rfl (fun _ => rfl)) ?_ rfl rfl; rintro _ _ ⟨_, rfl, _, rfl⟩)); refine R_take (T_not rfl) ?_ rfl rfl; refine R_take (T_decT rfl (by omega)) ?_ rfl rfl; refine R_nil ?_; refine S_true rfl rfl ?_; refine S_seq rfl ?_; refine S_region rfl rfl ?_; refine R_take (T_build0 lg_built0) ?_ rfl rfl; (refine R_eff0 (E_storew (cs := lgc (0, 0) none 0 0) (ds := lgc (0, 0) none 0 0) rfl rfl rfl rfl (lgc_one _ _ _ _) rfl) ?_ rfl; rintro _ _ rfl); refine R_p rfl ?_ rfl rfl; refine R_p rfl ?_ rfl rfl; refine R_nil ?_)
    refine hB _ _ _ _ _ rfl (.cell rfl rfl rfl inferInstance rfl (.tmp rfl (.tmp rfl .nil))) fun w' hS => ⟨((none, 0), ⟨[], rfl, fun m hm => absurd hm (by simp)⟩), rfl, trivial, dtB_nil2 (hS.sublist (List.nil_sublist _))⟩
  have hok : spl (i, t) l (pi, pu) es = if i ≤ pi ∧ hasB (i, t) l (pi, pu) = false then ((4, 0, (0, 0), []) : Int × Nat × At × List En) else spM (i, t) l (pi, pu) es := by
    unfold spl
    rw [if_pos hr0, if_pos ⟨by show pi ≤ _; omega, by show _ ≤ _ - pi; omega, hrs⟩]
  rw [hok, hh0] at hs
  by_cases hbad : i ≤ pi ∧ q0 = false
  · rw [if_pos hbad] at hs
    injection hs with e1 e2
    injection e2 with e2 e3
    injection e3 with e3 e4
    subst e1 e2 e3 e4 hK
    obtain ⟨hb1, rfl⟩ := hbad
    focus (refine S_seq rfl ?_; refine S_region rfl rfl ?_; (refine R_eff (E_boxa (cs := lgc (i, t) A k c) rfl) ?_ rfl rfl; rintro _ _ ⟨b3, rfl, rfl⟩); (refine R_eff (E_boxa (cs := atc (pi, pu)) rfl) ?_ rfl rfl; rintro _ _ ⟨b4, rfl, rfl⟩); (refine R_eff (E_alloca rfl lg_zero) ?_ rfl rfl; rintro _ _ ⟨b6, rfl, rfl⟩); refine R_p rfl ?_ rfl rfl; refine R_p rfl ?_ rfl rfl; refine R_nil ?_; refine S_seq rfl ?_; refine S_seq rfl ?_; refine S_region rfl rfl ?_; refine R_p rfl ?_ rfl rfl; refine R_take (T_load rfl rfl rfl rfl) ?_ rfl rfl; refine R_take (T_decF rfl (by omega)) ?_ rfl rfl; refine R_p rfl ?_ rfl rfl; refine R_p rfl ?_ rfl rfl; refine R_p rfl ?_ rfl rfl; refine R_take (T_convf rfl rfl rfl rfl (by unfold fits; omega)) ?_ rfl rfl; refine R_p rfl ?_ rfl rfl; refine R_take (T_load rfl rfl rfl rfl) ?_ rfl rfl; refine R_take (T_subN rfl rfl (by omega) (by unfold fits; omega)) ?_ rfl rfl; refine R_take (T_decF rfl (by omega)) ?_ rfl rfl; refine R_p rfl ?_ rfl rfl; refine R_p rfl ?_ rfl rfl; refine R_p rfl ?_ rfl rfl; refine R_p rfl ?_ rfl rfl; refine R_take (T_load rfl rfl rfl rfl) ?_ rfl rfl; ((refine R_eff (E_hv0 (f := 45) ⟨_, Try.func45, rfl, by kernel_rfl⟩ (fun w hS => risingD_k w A2 cE k2 E es pu hk2 hl2 ((Srd.old h2 (fun k _ => noOwns k)).rd w hS) (by omega) _ hrs) rfl rfl (fun _ => rfl)) ?_ rfl rfl; rintro _ _ ⟨_, rfl, _, rfl⟩)); refine R_take (T_not rfl) ?_ rfl rfl; refine R_p rfl ?_ rfl rfl; refine R_nil ?_; refine S_false rfl rfl ?_; refine S_skip rfl ?_; refine S_seq rfl ?_; refine S_seq rfl ?_; refine S_region rfl rfl ?_; refine R_p rfl ?_ rfl rfl; refine R_take (T_load rfl rfl rfl rfl) ?_ rfl rfl; refine R_p rfl ?_ rfl rfl; refine R_p rfl ?_ rfl rfl; refine R_take (T_load rfl rfl rfl rfl) ?_ rfl rfl; refine R_take (T_decT rfl (by omega)) ?_ rfl rfl; refine R_take (T_decT rfl (by omega)) ?_ rfl rfl; refine R_take (T_loads (ds := lgc (i, t) A k c) rfl rfl rfl rfl rfl) ?_ rfl rfl; refine R_take (T_loads (ds := atc (pi, pu)) rfl rfl rfl rfl rfl) ?_ rfl rfl; ((refine R_eff (E_hv0 (f := 36) ⟨_, Try.func36, rfl, by kernel_rfl⟩ (fun w hS => hasD_any w (i, t) A c k Q l hk hl ((Srd.old h (fun k _ => noOwns k)).rd w hS) (by omega) hfit (pi, pu) _ hh0) rfl rfl (fun _ => rfl)) ?_ rfl rfl; rintro _ _ ⟨_, rfl, _, rfl⟩)); refine R_take (T_not rfl) ?_ rfl rfl; refine R_take (T_decT rfl (by omega)) ?_ rfl rfl; refine R_nil ?_; refine S_true rfl rfl ?_; refine S_seq rfl ?_; refine S_region rfl rfl ?_; refine R_take (T_build0 lg_built0) ?_ rfl rfl; (refine R_eff0 (E_storew (cs := lgc (0, 0) none 0 0) (ds := lgc (0, 0) none 0 0) rfl rfl rfl rfl (lgc_one _ _ _ _) rfl) ?_ rfl; rintro _ _ rfl); refine R_p rfl ?_ rfl rfl; refine R_p rfl ?_ rfl rfl; refine R_nil ?_)
    refine hB _ _ _ _ _ rfl (.cell rfl rfl rfl inferInstance rfl (.tmp rfl (.tmp rfl .nil))) fun w' hS => ⟨((none, 0), ⟨[], rfl, fun m hm => absurd hm (by simp)⟩), rfl, trivial, dtB_nil2 (hS.sublist (List.nil_sublist _))⟩
  rw [if_neg hbad] at hs
  have hne : 0 < k → A ≠ none := fun h0 => by obtain ⟨ad, rfl, _⟩ := h.2 (by omega); simp
  have hne2 : 0 < k2 → A2 ≠ none := fun h0 => by obtain ⟨ad, rfl, _⟩ := h2.2 (by omega); simp
  have hE0 : spM (i, t) l (pi, pu) es = match firstR (i, t) l (pi, pu) es with
    | none => (0, pi + es.length, (i, t), l)
    | some j =>
      if (lastA (i, t) l).1 + 1 < pi + j + 1 then (4, 0, (0, 0), []) else
        if (es.getD j default).1 < aheadT (i, t) l (pi + j - i) then (2, 0, (0, 0), []) else
          if 16 < pi + j - i + (es.length - j) then (6, 0, (0, 0), []) else
            (0, pi + es.length, (i, t), l.take (pi + j - i) ++ es.drop j) := rfl
  rw [hE0, hla, hel] at hs
  dsimp only at hs
  have hmain : ∀ b3 b4 b6, RS Try.prog B 135 w (owns []) [.code (c1 (c2 (c1 (c2 (c2 (c2 (c2 (cbody Try.f17)))))))), .blk 0, .code (c2 (c2 (c2 (c2 (c2 (cbody Try.f17))))))] [(2, .slice A2 k2 cE), (3, .pointer (some ⟨b3, 0, none⟩)), (4, .pointer (some ⟨b4, 0, none⟩)), (6, .pointer (some ⟨b6, 0, none⟩)), (9, .int .u64 ((pi + k2 : Nat) : Int)), (54, .slice A2 k2 cE), (55, .int .i64 (k2 : Int)), (56, .int .i64 (0 : Int))] [pt b6 27 (lgc (0, 0) none 0 0), pt b4 24 (atc (pi, pu)), pt b3 27 (lgc (i, t) A k c)] := fun b3 b4 b6 => by
    refine S_loop (X := Nat) (fun j => [(2, .slice A2 k2 cE), (3, .pointer (some ⟨b3, 0, none⟩)), (4, .pointer (some ⟨b4, 0, none⟩)), (6, .pointer (some ⟨b6, 0, none⟩)), (9, .int .u64 ((pi + k2 : Nat) : Int)), (54, .slice A2 k2 cE), (55, .int .i64 (k2 : Int)), (56, .int .i64 (j : Int))]) (fun _ => [pt b6 27 (lgc (0, 0) none 0 0), pt b4 24 (atc (pi, pu)), pt b3 27 (lgc (i, t) A k c)]) (fun j => j ≤ k2 ∧ ∀ q, q < j → hitB (i, t) l (pi, pu) es q = false) (fun j => k2 - j) rfl 0 ⟨Nat.zero_le _, fun q hq => absurd hq (Nat.not_lt_zero _)⟩ (Sub.cons rfl (Sub.cons rfl (Sub.cons rfl (Sub.cons rfl (Sub.cons rfl (Sub.cons rfl (Sub.cons rfl (Sub.cons rfl Sub.nil)))))))) sub_st ?_
    rintro j ⟨hj, hno⟩ J hJ
    rcases Nat.lt_or_ge j k2 with hjl | hjl
    · have hne2 := hne2 (by omega)
      have hat := cellsL_at (f := emc) emc_len E default j (by omega)
      obtain ⟨m, hm⟩ : ∃ m, E.getD j default = m := ⟨_, rfl⟩
      rw [hm] at hat
      have hm1 : (es.getD j default).1 = m.1 := by rw [← hl2, emv_fst _ _ (by omega), hm]
      obtain ⟨q, hq⟩ : ∃ q, hasB (i, t) l (pi + j + 1, m.1) = q := ⟨_, rfl⟩
      have hhit : hitB (i, t) l (pi, pu) es j = (decide (i < pi + j + 1) && !q) := by
        unfold hitB
        rw [hm1, hq]
      by_cases hgt : i < pi + j + 1
      · cases q
        · have hh1 : hitB (i, t) l (pi, pu) es j = true := by rw [hhit, decide_eq_true hgt]; rfl
          have hf := first_some (by omega) hno hh1
          rw [hf] at hs
          dsimp only at hs
          rw [hm1] at hs
          focus (refine S_seq rfl ?_; refine S_region rfl rfl ?_; refine R_take (T_decT rfl (by omega)) ?_ rfl rfl; refine R_nil ?_; refine S_seq rfl ?_; refine S_true rfl rfl ?_; refine S_skip rfl ?_; refine S_seq rfl ?_; refine S_block rfl ?_; refine S_seq rfl ?_; refine S_region rfl rfl ?_; refine R_p rfl ?_ rfl rfl; refine R_take (T_ixM (sz := 3) rfl rfl rfl rfl rfl rfl hne2 hjl) ?_ rfl rfl; refine R_take (T_lda (ds := emc m) rfl rfl rfl (Srd.old h2 (fun k _ => noOwns k)) rfl (by omega) hat) ?_ rfl rfl; (refine R_eff (E_alloca rfl em_zero) ?_ rfl rfl; rintro _ _ ⟨b11, rfl, rfl⟩); refine R_p rfl ?_ rfl rfl; (refine R_eff0 (E_storew (cs := emc (0, 0, none, 0, [])) (ds := emc m) rfl rfl rfl rfl (emc_one _) rfl) ?_ rfl; rintro _ _ rfl); refine R_nil ?_; refine S_seq rfl ?_; refine S_region rfl rfl ?_; refine R_p rfl ?_ rfl rfl; refine R_take (T_load rfl rfl rfl rfl) ?_ rfl rfl; refine R_p rfl ?_ rfl rfl; refine R_take (T_convf rfl rfl rfl rfl (by unfold fits; omega)) ?_ rfl rfl; refine R_take (T_addN rfl rfl (by unfold fits; omega)) ?_ rfl rfl; refine R_take (T_addN rfl rfl (by unfold fits; omega)) ?_ rfl rfl; refine R_p rfl ?_ rfl rfl; refine R_take (T_load rfl rfl rfl rfl) ?_ rfl rfl; refine R_take (T_build2 rfl rfl (at_built2 (pi + j + 1) m.1)) ?_ rfl rfl; (refine R_eff (E_alloca rfl at_zero) ?_ rfl rfl; rintro _ _ ⟨b12, rfl, rfl⟩); (refine R_eff0 (E_storew (cs := atc (0, 0)) (ds := atc (pi + j + 1, m.1)) rfl rfl rfl rfl (atc_one _) rfl) ?_ rfl; rintro _ _ rfl); refine R_nil ?_; refine S_seq rfl ?_; refine S_seq rfl ?_; refine S_region rfl rfl ?_; refine R_p rfl ?_ rfl rfl; refine R_take (T_load rfl rfl rfl rfl) ?_ rfl rfl; refine R_p rfl ?_ rfl rfl; refine R_p rfl ?_ rfl rfl; refine R_take (T_load rfl rfl rfl rfl) ?_ rfl rfl; refine R_take (T_decF rfl (by omega)) ?_ rfl rfl; refine R_p rfl ?_ rfl rfl; refine R_take (T_loads (ds := lgc (i, t) A k c) rfl rfl rfl rfl rfl) ?_ rfl rfl; refine R_take (T_loads (ds := atc (pi + j + 1, m.1)) rfl rfl rfl rfl rfl) ?_ rfl rfl; ((refine R_eff (E_hv0 (f := 36) ⟨_, Try.func36, rfl, by kernel_rfl⟩ (fun w hS => hasD_any w (i, t) A c k Q l hk hl ((Srd.old h (fun k _ => noOwns k)).rd w hS) (by omega) hfit (pi + j + 1, m.1) _ hq) rfl rfl (fun _ => rfl)) ?_ rfl rfl; rintro _ _ ⟨_, rfl, _, rfl⟩)); refine R_p rfl ?_ rfl rfl; refine R_nil ?_; refine S_false rfl rfl ?_; refine S_skip rfl ?_; refine S_seq rfl ?_; refine S_seq rfl ?_)
          by_cases hfar : i + k + 1 < pi + j + 1
          · rw [if_pos hfar] at hs
            injection hs with e1 e2
            injection e2 with e2 e3
            injection e3 with e3 e4
            subst e1 e2 e3 e4 hK
            skip
            refine S_draw ([pt b12 24 (atc (pi + j + 1, m.1)), pt b3 27 (lgc (i, t) A k c)]) sub_st (by kernel_rfl) rfl (by kernel_rfl) (by kernel_rfl : _ = 7) ?_
            refine D_take 0 rfl (pev_ok rfl) ?_ rfl rfl (by kernel_rfl) (by kernel_rfl)
            refine D_take 1 rfl (T_load rfl rfl rfl rfl) ?_ rfl rfl (by kernel_rfl) (by kernel_rfl)
            refine D_take 2 rfl (T_loads (ds := lgc (i, t) A k c) rfl rfl rfl rfl rfl) ?_ rfl rfl (by kernel_rfl) (by kernel_rfl)
            refine D_one 3 rfl (E_hv0 (f := 27) ⟨_, Try.func27, rfl, by kernel_rfl⟩ (fun w hS => lastD_any w (i, t) A c k Q l hk hl ((Srd.old h (fun k _ => noOwns k)).rd w hS) (by omega) hfit _ hla) rfl rfl (fun _ => rfl)) ?_ rfl rfl (by kernel_rfl)
            rintro _ _ ⟨_, rfl, _, rfl⟩
            refine Nx_same sub_st ?_
            refine D_take 4 rfl (T_fldv (xs := atc (i + k, lt)) rfl rfl rfl rfl rfl rfl) ?_ rfl rfl (by kernel_rfl) (by kernel_rfl)
            (refine D_take 5 rfl (T_addN rfl rfl (by unfold fits; omega)) ?_ rfl rfl (by kernel_rfl) (by kernel_rfl))
            refine D_take 6 rfl (T_decT rfl (by omega)) ?_ rfl rfl (by kernel_rfl) (by kernel_rfl)
            refine D_done ?_ (by kernel_rfl)
            skip
            focus (refine S_true rfl rfl ?_; refine S_seq rfl ?_; refine S_region rfl rfl ?_; refine R_take (T_build0 lg_built0) ?_ rfl rfl; (refine R_eff0 (E_storew (cs := lgc (0, 0) none 0 0) (ds := lgc (0, 0) none 0 0) rfl rfl rfl rfl (lgc_one _ _ _ _) rfl) ?_ rfl; rintro _ _ rfl); refine R_p rfl ?_ rfl rfl; refine R_p rfl ?_ rfl rfl; refine R_nil ?_)
            refine hB _ _ _ _ _ rfl (.cell rfl rfl rfl inferInstance rfl (.tmp rfl (.tmp rfl .nil))) fun w' hS => ⟨((none, 0), ⟨[], rfl, fun m hm => absurd hm (by simp)⟩), rfl, trivial, dtB_nil2 (hS.sublist (List.nil_sublist _))⟩
          rw [if_neg hfar] at hs
          skip
          refine S_draw ([pt b12 24 (atc (pi + j + 1, m.1)), pt b3 27 (lgc (i, t) A k c)]) sub_st (by kernel_rfl) rfl (by kernel_rfl) (by kernel_rfl : _ = 7) ?_
          refine D_take 0 rfl (pev_ok rfl) ?_ rfl rfl (by kernel_rfl) (by kernel_rfl)
          refine D_take 1 rfl (T_load rfl rfl rfl rfl) ?_ rfl rfl (by kernel_rfl) (by kernel_rfl)
          refine D_take 2 rfl (T_loads (ds := lgc (i, t) A k c) rfl rfl rfl rfl rfl) ?_ rfl rfl (by kernel_rfl) (by kernel_rfl)
          refine D_one 3 rfl (E_hv0 (f := 27) ⟨_, Try.func27, rfl, by kernel_rfl⟩ (fun w hS => lastD_any w (i, t) A c k Q l hk hl ((Srd.old h (fun k _ => noOwns k)).rd w hS) (by omega) hfit _ hla) rfl rfl (fun _ => rfl)) ?_ rfl rfl (by kernel_rfl)
          rintro _ _ ⟨_, rfl, _, rfl⟩
          refine Nx_same sub_st ?_
          refine D_take 4 rfl (T_fldv (xs := atc (i + k, lt)) rfl rfl rfl rfl rfl rfl) ?_ rfl rfl (by kernel_rfl) (by kernel_rfl)
          (refine D_take 5 rfl (T_addN rfl rfl (by unfold fits; omega)) ?_ rfl rfl (by kernel_rfl) (by kernel_rfl))
          refine D_take 6 rfl (T_decF rfl (by omega)) ?_ rfl rfl (by kernel_rfl) (by kernel_rfl)
          refine D_done ?_ (by kernel_rfl)
          skip
          obtain ⟨n, hn2⟩ : ∃ n, pi + j + 1 - i - 1 = n := ⟨_, rfl⟩
          have hn0 : pi + j - i = n := by omega
          focus (refine S_false rfl rfl ?_; refine S_skip rfl ?_; refine S_seq rfl ?_; refine S_region rfl rfl ?_; refine R_p rfl ?_ rfl rfl; refine R_take (T_load rfl rfl rfl rfl) ?_ rfl rfl; refine R_p rfl ?_ rfl rfl; refine R_p rfl ?_ rfl rfl; refine R_take (T_load rfl rfl rfl rfl) ?_ rfl rfl; refine R_take (T_subN rfl rfl (by omega) (by unfold fits; omega)) ?_ rfl rfl; refine R_take (T_subE hn2 rfl rfl (by omega) (by unfold fits; omega)) ?_ rfl rfl; refine R_take (T_convf rfl rfl rfl rfl (by unfold fits; omega)) ?_ rfl rfl; refine R_p rfl ?_ rfl rfl; refine R_nil ?_; refine S_seq rfl ?_; refine S_seq rfl ?_)
          have hn1 : pi + j = i + n := by omega
          have hnk : n ≤ k := by omega
          rw [hn0, ahead_place] at hs
          obtain ⟨⟨pp, pt'⟩, hpl⟩ : ∃ x, placeN (i, t) l n = x := ⟨_, rfl⟩
          rw [hpl] at hs
          dsimp only at hs
          by_cases h14 : m.1 < pt'
          · rw [if_pos h14] at hs
            injection hs with e1 e2
            injection e2 with e2 e3
            injection e3 with e3 e4
            subst e1 e2 e3 e4 hK
            skip
            refine S_draw ([pt b11 44 (emc m), pt b3 27 (lgc (i, t) A k c)]) sub_st (by kernel_rfl) rfl (by kernel_rfl) (by kernel_rfl : _ = 7) ?_
            refine D_take 0 rfl (pev_ok rfl) ?_ rfl rfl (by kernel_rfl) (by kernel_rfl)
            refine D_take 1 rfl (T_load rfl rfl rfl rfl) ?_ rfl rfl (by kernel_rfl) (by kernel_rfl)
            refine D_take 2 rfl (T_loads (ds := lgc (i, t) A k c) rfl rfl rfl rfl rfl) ?_ rfl rfl (by kernel_rfl) (by kernel_rfl)
            refine D_take 3 rfl (pev_ok rfl) ?_ rfl rfl (by kernel_rfl) (by kernel_rfl)
            refine D_one 4 rfl (E_hv0 (f := 46) ⟨_, Try.func46, rfl, by kernel_rfl⟩ (fun w hS => placeD_any w (i, t) A c k Q l hk hl ((Srd.old h (fun k _ => noOwns k)).rd w hS) (by omega) hfit n hnk _ hpl) rfl rfl (fun _ => rfl)) ?_ rfl rfl (by kernel_rfl)
            rintro _ _ ⟨_, rfl, _, rfl⟩
            refine Nx_same sub_st ?_
            refine D_take 5 rfl (T_fldv (xs := atc (pp, pt')) rfl rfl rfl rfl rfl rfl) ?_ rfl rfl (by kernel_rfl) (by kernel_rfl)
            refine D_take 6 rfl (T_decT rfl (by omega)) ?_ rfl rfl (by kernel_rfl) (by kernel_rfl)
            refine D_done ?_ (by kernel_rfl)
            skip
            focus (refine S_true rfl rfl ?_; refine S_seq rfl ?_; refine S_region rfl rfl ?_; refine R_take (T_build0 lg_built0) ?_ rfl rfl; (refine R_eff0 (E_storew (cs := lgc (0, 0) none 0 0) (ds := lgc (0, 0) none 0 0) rfl rfl rfl rfl (lgc_one _ _ _ _) rfl) ?_ rfl; rintro _ _ rfl); refine R_p rfl ?_ rfl rfl; refine R_p rfl ?_ rfl rfl; refine R_nil ?_)
            refine hB _ _ _ _ _ rfl (.cell rfl rfl rfl inferInstance rfl (.tmp rfl (.tmp rfl .nil))) fun w' hS => ⟨((none, 0), ⟨[], rfl, fun m hm => absurd hm (by simp)⟩), rfl, trivial, dtB_nil2 (hS.sublist (List.nil_sublist _))⟩
          rw [if_neg h14] at hs
          skip
          refine S_draw ([pt b11 44 (emc m), pt b3 27 (lgc (i, t) A k c)]) sub_st (by kernel_rfl) rfl (by kernel_rfl) (by kernel_rfl : _ = 7) ?_
          refine D_take 0 rfl (pev_ok rfl) ?_ rfl rfl (by kernel_rfl) (by kernel_rfl)
          refine D_take 1 rfl (T_load rfl rfl rfl rfl) ?_ rfl rfl (by kernel_rfl) (by kernel_rfl)
          refine D_take 2 rfl (T_loads (ds := lgc (i, t) A k c) rfl rfl rfl rfl rfl) ?_ rfl rfl (by kernel_rfl) (by kernel_rfl)
          refine D_take 3 rfl (pev_ok rfl) ?_ rfl rfl (by kernel_rfl) (by kernel_rfl)
          refine D_one 4 rfl (E_hv0 (f := 46) ⟨_, Try.func46, rfl, by kernel_rfl⟩ (fun w hS => placeD_any w (i, t) A c k Q l hk hl ((Srd.old h (fun k _ => noOwns k)).rd w hS) (by omega) hfit n hnk _ hpl) rfl rfl (fun _ => rfl)) ?_ rfl rfl (by kernel_rfl)
          rintro _ _ ⟨_, rfl, _, rfl⟩
          refine Nx_same sub_st ?_
          refine D_take 5 rfl (T_fldv (xs := atc (pp, pt')) rfl rfl rfl rfl rfl rfl) ?_ rfl rfl (by kernel_rfl) (by kernel_rfl)
          refine D_take 6 rfl (T_decF rfl (by omega)) ?_ rfl rfl (by kernel_rfl) (by kernel_rfl)
          refine D_done ?_ (by kernel_rfl)
          skip
          by_cases h16 : 16 < n + (k2 - j)
          · rw [if_pos h16] at hs
            injection hs with e1 e2
            injection e2 with e2 e3
            injection e3 with e3 e4
            subst e1 e2 e3 e4 hK
            focus (refine S_false rfl rfl ?_; refine S_skip rfl ?_; refine S_seq rfl ?_; refine S_seq rfl ?_; refine S_region rfl rfl ?_; refine R_p rfl ?_ rfl rfl; refine R_p rfl ?_ rfl rfl; refine R_p rfl ?_ rfl rfl; refine R_take (T_addN rfl rfl (by unfold fits; omega)) ?_ rfl rfl; refine R_p rfl ?_ rfl rfl; refine R_take (T_subN rfl rfl (by omega) (by unfold fits; omega)) ?_ rfl rfl; refine R_take (T_decT rfl (by omega)) ?_ rfl rfl; refine R_nil ?_; refine S_true rfl rfl ?_; refine S_seq rfl ?_; refine S_region rfl rfl ?_; refine R_take (T_build0 lg_built0) ?_ rfl rfl; (refine R_eff0 (E_storew (cs := lgc (0, 0) none 0 0) (ds := lgc (0, 0) none 0 0) rfl rfl rfl rfl (lgc_one _ _ _ _) rfl) ?_ rfl; rintro _ _ rfl); refine R_p rfl ?_ rfl rfl; refine R_p rfl ?_ rfl rfl; refine R_nil ?_)
            refine hB _ _ _ _ _ rfl (.cell rfl rfl rfl inferInstance rfl (.tmp rfl (.tmp rfl .nil))) fun w' hS => ⟨((none, 0), ⟨[], rfl, fun m hm => absurd hm (by simp)⟩), rfl, trivial, dtB_nil2 (hS.sublist (List.nil_sublist _))⟩
          rw [if_neg h16] at hs
          injection hs with e1 e2
          injection e2 with e2 e3
          injection e3 with e3 e4
          subst e1 e2 e3
          have hKK : K = n + (k2 - j) := by rw [← hK, ← e4, List.length_append, List.length_take, List.length_drop, hll, hel]; omega
          subst hKK
          focus (refine S_false rfl rfl ?_; refine S_skip rfl ?_; refine S_seq rfl ?_; refine S_seq rfl ?_; refine S_region rfl rfl ?_; refine R_p rfl ?_ rfl rfl; refine R_p rfl ?_ rfl rfl; refine R_p rfl ?_ rfl rfl; refine R_take (T_addN rfl rfl (by unfold fits; omega)) ?_ rfl rfl; refine R_p rfl ?_ rfl rfl; refine R_take (T_subN rfl rfl (by omega) (by unfold fits; omega)) ?_ rfl rfl; refine R_take (T_decF rfl (by omega)) ?_ rfl rfl; refine R_nil ?_; refine S_false rfl rfl ?_; refine S_skip rfl ?_; refine S_seq rfl ?_)
          have htr : Rd w All 3 A n (cellsL emc (Q.take n)) := rd_takeE h hnk
          have htd : RDt w All ((Q.take n).map emd) := fun d hd' => hd d (by rw [List.map_take] at hd'; exact List.mem_of_mem_take hd')
          have hkt : ∀ m ∈ Q.take n, m.2.2.2.2.length ≤ 100000 := fun m hm => hkk m (List.mem_of_mem_take hm)
          have h2' : Rd w All 3 A2 E.length (cellsL emc E) := by rw [hk2]; exact h2
          have hcutr : Rd w All 3 (cutP A2 cE j 3) (k2 - j) (cellsL emc (E.drop j)) := by
            have := rd_cutE (q := j) (c := cE) h2' (by omega) (by omega)
            rwa [hk2] at this
          have hcutd := rdt_drop hd2 j
          have hkd : ∀ m ∈ E.drop j, m.2.2.2.2.length ≤ 100000 := fun m hm => hkk2 m (List.mem_of_mem_drop hm)
          have hjk : j ≤ k2 := by omega
          refine S_cut (X := Nat × Option Addr × Nat × Sh (l.take n)) (fun x => [(2, .slice A2 k2 cE), (6, .pointer (some ⟨b6, 0, none⟩)), (9, .int .u64 ((pi + k2 : Nat) : Int)), (10, .int .i64 (j : Int)), (14, .pointer (some ⟨x.1, 0, none⟩))]) (fun x => [pt x.1 27 (lgc (i, t) x.2.1 n x.2.2.1), row 44 3 x.2.1 n x.2.2.1 (cellsL emc x.2.2.2.1), dtB 5 (x.2.2.2.1.map emd), pt b6 27 (lgc (0, 0) none 0 0)]) (fun _ => True) (fun J2 hJ2 => ?_) (fun x _ => ?_)
          · skip
            refine S_draw ([pt b3 27 (lgc (i, t) A k c)]) sub_st (by kernel_rfl) rfl (by kernel_rfl) (by kernel_rfl : _ = 10) ?_
            refine D_take 0 rfl (pev_ok rfl) ?_ rfl rfl (by kernel_rfl) (by kernel_rfl)
            refine D_take 1 rfl (T_loads (ds := atc (i, t)) rfl rfl rfl rfl rfl) ?_ rfl rfl (by kernel_rfl) (by kernel_rfl)
            refine D_take 2 rfl (pev_ok rfl) ?_ rfl rfl (by kernel_rfl) (by kernel_rfl)
            refine D_take 3 rfl (T_load rfl rfl rfl rfl) ?_ rfl rfl (by kernel_rfl) (by kernel_rfl)
            refine D_take 4 rfl (pev_ok rfl) ?_ rfl rfl (by kernel_rfl) (by kernel_rfl)
            refine D_take 5 rfl (T_slhN rfl rfl rfl rfl rfl (by omega)) ?_ rfl rfl (by kernel_rfl) (by kernel_rfl)
            refine D_take 6 rfl (T_build2 rfl rfl (lg_built2 (i, t) _ _ _)) ?_ rfl rfl (by kernel_rfl) (by kernel_rfl)
            refine D_node #[true, true, true, true, true, true, true, true, true, false] (fun x : Option Addr × Nat × Sh (l.take n) × Nat => [(14, .pointer (some ⟨x.2.2.2, 0, none⟩)), (120, .agg (lgc (i, t) x.1 n x.2.1).toArray), (119, .agg (lgc (i, t) A n c).toArray), (2, .slice A2 k2 cE), (6, .pointer (some ⟨b6, 0, none⟩)), (9, .int .u64 ((pi + k2 : Nat) : Int)), (10, .int .i64 (j : Int))]) (fun x : Option Addr × Nat × Sh (l.take n) × Nat => [pt x.2.2.2 27 (lgc (0, 0) none 0 0), row 44 3 x.1 n x.2.1 (cellsL emc x.2.2.1.1), dtB 5 (x.2.2.1.1.map emd), pt b6 27 (lgc (0, 0) none 0 0), pt b3 27 (lgc (i, t) A k c)]) (fun nd0 => ?_) (fun x => ?_)
            refine D_nodeR #[true, true, true, true, true, true, true, true, false, false] (fun x : Option Addr × Nat × Sh (l.take n) => [(120, .agg (lgc (i, t) x.1 n x.2.1).toArray), (119, .agg (lgc (i, t) A n c).toArray), (2, .slice A2 k2 cE), (6, .pointer (some ⟨b6, 0, none⟩)), (9, .int .u64 ((pi + k2 : Nat) : Int)), (10, .int .i64 (j : Int))]) (fun x : Option Addr × Nat × Sh (l.take n) => [row 44 3 x.1 n x.2.1 (cellsL emc x.2.2.1), dtB 5 (x.2.2.1.map emd), pt b6 27 (lgc (0, 0) none 0 0), pt b3 27 (lgc (i, t) A k c)]) (fun x => ?_) (fun nd1 => ?_)
            · skip
              obtain ⟨A5, c5, P5⟩ := x
              try dsimp only
              refine D_one 8 rfl (E_alloca rfl lg_zero) ?_ rfl rfl (by kernel_rfl)
              rintro _ _ ⟨b14, rfl, rfl⟩
              refine Nx_same sub_st ?_
              have h := nd0 (A5, c5, P5, b14)
              try dsimp only at h
              exact D_at h (by repeat first | exact Sub.nil | refine Sub.cons rfl ?_) sub_st (by kernel_rfl)
            refine D_nodeR #[true, true, true, true, true, true, true, false, true, false] (fun x : Nat => [(14, .pointer (some ⟨x, 0, none⟩)), (119, .agg (lgc (i, t) A n c).toArray), (2, .slice A2 k2 cE), (6, .pointer (some ⟨b6, 0, none⟩)), (9, .int .u64 ((pi + k2 : Nat) : Int)), (10, .int .i64 (j : Int))]) (fun x : Nat => [pt x 27 (lgc (0, 0) none 0 0), pt b6 27 (lgc (0, 0) none 0 0), pt b3 27 (lgc (i, t) A k c)]) (fun x => ?_) (fun nd2 => ?_)
            · skip
              revert x; intro b14
              try dsimp only
              refine D_one 7 rfl (E_hvG (f := 47) ⟨_, Try.func47, rfl, by kernel_rfl⟩ (fun w hS => copyD_any w (i, t) A c n (Q.take n) (l.take n) (by rw [List.length_take]; omega) (by rw [List.map_take, hl]) ((Srd.old htr (fun k _ => noOwns k)).rd w hS) ((SDt.old htd (fun k _ => noOwns k)).rd w hS) (by omega) hkt) rfl rfl) ?_ rfl rfl (by kernel_rfl)
              rintro _ _ ⟨⟨⟨A5, c5⟩, P5⟩, rfl, _, rfl⟩; dsimp only [List.cons_append, List.nil_append]
              refine Nx_same sub_st ?_
              have h := nd0 (A5, c5, P5, b14)
              try dsimp only at h
              exact D_at h (by repeat first | exact Sub.nil | refine Sub.cons rfl ?_) sub_st (by kernel_rfl)
            refine D_nodeR #[true, true, true, true, true, true, true, false, false, false] (fun _ : Unit => [(119, .agg (lgc (i, t) A n c).toArray), (2, .slice A2 k2 cE), (6, .pointer (some ⟨b6, 0, none⟩)), (9, .int .u64 ((pi + k2 : Nat) : Int)), (10, .int .i64 (j : Int))]) (fun _ : Unit => [pt b6 27 (lgc (0, 0) none 0 0), pt b3 27 (lgc (i, t) A k c)]) (fun x => ?_) (fun nd3 => ?_)
            · skip
              obtain ⟨⟩ := x
              try dsimp only
              refine D_two 7 8 (by decide) rfl rfl (E_hvG (f := 47) ⟨_, Try.func47, rfl, by kernel_rfl⟩ (fun w hS => copyD_any w (i, t) A c n (Q.take n) (l.take n) (by rw [List.length_take]; omega) (by rw [List.map_take, hl]) ((Srd.old htr (fun k _ => noOwns k)).rd w hS) ((SDt.old htd (fun k _ => noOwns k)).rd w hS) (by omega) hkt) rfl rfl) (E_alloca rfl lg_zero) ?_ ?_ rfl rfl rfl rfl (by kernel_rfl)
              · rintro _ _ ⟨⟨⟨A5, c5⟩, P5⟩, rfl, _, rfl⟩; dsimp only [List.cons_append, List.nil_append]
                refine Nx_same sub_st ?_
                have h := nd1 (A5, c5, P5)
                try dsimp only at h
                exact D_at h (by repeat first | exact Sub.nil | refine Sub.cons rfl ?_) sub_st (by kernel_rfl)
              · rintro _ _ ⟨b14, rfl, rfl⟩
                refine Nx_same sub_st ?_
                have h := nd2 (b14)
                try dsimp only at h
                exact D_at h (by repeat first | exact Sub.nil | refine Sub.cons rfl ?_) sub_st (by kernel_rfl)
            have h := nd3 ()
            try dsimp only at h
            exact D_at h (by repeat first | exact Sub.nil | refine Sub.cons rfl ?_) sub_st (by kernel_rfl)
            obtain ⟨A5, c5, P5, b14⟩ := x
            try dsimp only
            refine D_one 9 rfl (E_storew (cs := lgc (0, 0) none 0 0) (ds := lgc (i, t) A5 n c5) rfl rfl rfl rfl (lgc_one _ _ _ _) rfl) ?_ rfl rfl (by kernel_rfl)
            rintro _ _ rfl
            refine Nx_same sub_st ?_
            refine D_done ?_ (by kernel_rfl)
            skip
            exact hJ2 (b14, A5, c5, P5) _ _ trivial (Sub.cons rfl (Sub.cons rfl (Sub.cons rfl (Sub.cons rfl (Sub.cons rfl Sub.nil))))) sub_st
          obtain ⟨b14, A5, c5, P5⟩ := x
          dsimp only
          focus (refine S_seq rfl ?_)
          refine S_draw ([pt b14 27 (lgc (i, t) A5 n c5)]) sub_st (by kernel_rfl) rfl (by kernel_rfl) (by kernel_rfl : _ = 9) ?_
          refine D_take 0 rfl (pev_ok rfl) ?_ rfl rfl (by kernel_rfl) (by kernel_rfl)
          refine D_take 1 rfl (T_load rfl rfl rfl rfl) ?_ rfl rfl (by kernel_rfl) (by kernel_rfl)
          refine D_take 2 rfl (pev_ok rfl) ?_ rfl rfl (by kernel_rfl) (by kernel_rfl)
          refine D_take 3 rfl (pev_ok rfl) ?_ rfl rfl (by kernel_rfl) (by kernel_rfl)
          refine D_take 4 rfl (T_slN (sz := 3) (q := j) rfl rfl rfl rfl rfl rfl hjk hcE) ?_ rfl rfl (by kernel_rfl) (by kernel_rfl)
          refine D_one 5 rfl (E_hvG (f := 48) ⟨_, Try.func48, rfl, by kernel_rfl⟩ (fun w hS => entD_any w (cutP A2 cE j 3) (cE - j) (k2 - j) (E.drop j) (es.drop j) (by rw [List.length_drop]; omega) (by rw [List.map_drop, hl2]) ((Srd.old hcutr (fun k _ => noOwns k)).rd w hS) ((SDt.old hcutd (fun k _ => noOwns k)).rd w hS) (by omega) hkd) rfl rfl) ?_ rfl rfl (by kernel_rfl)
          rintro _ _ ⟨⟨⟨A6, c6⟩, P6⟩, rfl, _, rfl⟩; dsimp only [List.cons_append, List.nil_append]
          refine Nx_same sub_st ?_
          refine D_one 6 rfl (E_appS (sz := 3) (m := n) (c := c5) (A := A5) rfl rfl rfl rfl rfl rfl rfl (by decide) (Srd.row (A := A6) (n := k2 - j) (c := c6)) (em_ones P6.1) (by show (n + (k2 - j)) * 40 ≤ _; omega) (by unfold maxLen; omega)) ?_ rfl rfl (by kernel_rfl)
          rintro _ _ ⟨A7, c7, rfl, rfl⟩
          refine Nx_same sub_st ?_
          refine D_take 7 rfl (pev_ok rfl) ?_ rfl rfl (by kernel_rfl) (by kernel_rfl)
          refine D_one 8 rfl (E_store1 rfl rfl rfl rfl rfl rfl (by show _ < 3; omega)) ?_ rfl rfl (by kernel_rfl)
          rintro _ _ rfl
          refine Nx_pivot (by kernel_rfl) ?_
          refine D_done ?_ (by kernel_rfl)
          skip
          focus (refine S_seq rfl ?_; refine S_region rfl rfl ?_; refine R_take (T_loads (ds := lgc (i, t) A7 (n + (k2 - j)) c7) rfl rfl rfl rfl rfl) ?_ rfl rfl; refine R_p rfl ?_ rfl rfl; (refine R_eff0 (E_storew (cs := lgc (0, 0) none 0 0) (ds := lgc (i, t) A7 (n + (k2 - j)) c7) rfl rfl rfl rfl (lgc_one _ _ _ _) rfl) ?_ rfl; rintro _ _ rfl); refine R_p rfl ?_ rfl rfl; refine R_p rfl ?_ rfl rfl; refine R_nil ?_)
          refine hB _ _ _ _ _ rfl (.cell rfl rfl rfl inferInstance rfl (.tmp rfl (.tmp rfl .nil))) fun w' hS => ⟨((A7, c7), ⟨P5.1 ++ P6.1, by rw [List.map_append, P5.2.1, P6.2.1]; exact e4, fun m hm => (List.mem_append.1 hm).elim (P5.2.2 m) (P6.2.2 m)⟩), rfl, trivial, ?_⟩
          dsimp only
          rw [cellsL_app, List.map_append]
          have h9 := sub_st (H' := [dtB 5 (P5.1.map emd), dtB 5 (P6.1.map emd), row 44 3 A7 (n + (k2 - j)) c7 (cellsL emc P5.1 ++ cellsL emc P6.1)]) w' hS
          have h10 := dtB_app h9
          exact sub_st w' h10
        · skip
          focus (refine S_seq rfl ?_; refine S_region rfl rfl ?_; refine R_take (T_decT rfl (by omega)) ?_ rfl rfl; refine R_nil ?_; refine S_seq rfl ?_; refine S_true rfl rfl ?_; refine S_skip rfl ?_; refine S_seq rfl ?_; refine S_block rfl ?_; refine S_seq rfl ?_; refine S_region rfl rfl ?_; refine R_p rfl ?_ rfl rfl; refine R_take (T_ixM (sz := 3) rfl rfl rfl rfl rfl rfl hne2 hjl) ?_ rfl rfl; refine R_take (T_lda (ds := emc m) rfl rfl rfl (Srd.old h2 (fun k _ => noOwns k)) rfl (by omega) hat) ?_ rfl rfl; (refine R_eff (E_alloca rfl em_zero) ?_ rfl rfl; rintro _ _ ⟨b11, rfl, rfl⟩); refine R_p rfl ?_ rfl rfl; (refine R_eff0 (E_storew (cs := emc (0, 0, none, 0, [])) (ds := emc m) rfl rfl rfl rfl (emc_one _) rfl) ?_ rfl; rintro _ _ rfl); refine R_nil ?_; refine S_seq rfl ?_; refine S_region rfl rfl ?_; refine R_p rfl ?_ rfl rfl; refine R_take (T_load rfl rfl rfl rfl) ?_ rfl rfl; refine R_p rfl ?_ rfl rfl; refine R_take (T_convf rfl rfl rfl rfl (by unfold fits; omega)) ?_ rfl rfl; refine R_take (T_addN rfl rfl (by unfold fits; omega)) ?_ rfl rfl; refine R_take (T_addN rfl rfl (by unfold fits; omega)) ?_ rfl rfl; refine R_p rfl ?_ rfl rfl; refine R_take (T_load rfl rfl rfl rfl) ?_ rfl rfl; refine R_take (T_build2 rfl rfl (at_built2 (pi + j + 1) m.1)) ?_ rfl rfl; (refine R_eff (E_alloca rfl at_zero) ?_ rfl rfl; rintro _ _ ⟨b12, rfl, rfl⟩); (refine R_eff0 (E_storew (cs := atc (0, 0)) (ds := atc (pi + j + 1, m.1)) rfl rfl rfl rfl (atc_one _) rfl) ?_ rfl; rintro _ _ rfl); refine R_nil ?_; refine S_seq rfl ?_; refine S_seq rfl ?_; refine S_region rfl rfl ?_; refine R_p rfl ?_ rfl rfl; refine R_take (T_load rfl rfl rfl rfl) ?_ rfl rfl; refine R_p rfl ?_ rfl rfl; refine R_p rfl ?_ rfl rfl; refine R_take (T_load rfl rfl rfl rfl) ?_ rfl rfl; refine R_take (T_decF rfl (by omega)) ?_ rfl rfl; refine R_p rfl ?_ rfl rfl; refine R_take (T_loads (ds := lgc (i, t) A k c) rfl rfl rfl rfl rfl) ?_ rfl rfl; refine R_take (T_loads (ds := atc (pi + j + 1, m.1)) rfl rfl rfl rfl rfl) ?_ rfl rfl; ((refine R_eff (E_hv0 (f := 36) ⟨_, Try.func36, rfl, by kernel_rfl⟩ (fun w hS => hasD_any w (i, t) A c k Q l hk hl ((Srd.old h (fun k _ => noOwns k)).rd w hS) (by omega) hfit (pi + j + 1, m.1) _ hq) rfl rfl (fun _ => rfl)) ?_ rfl rfl; rintro _ _ ⟨_, rfl, _, rfl⟩)); refine R_take (T_decT rfl (by omega)) ?_ rfl rfl; refine R_nil ?_; refine S_true rfl rfl ?_; refine S_exit rfl rfl ?_; refine S_region rfl rfl ?_; refine R_take (T_addN rfl rfl (by unfold fits; omega)) ?_ rfl rfl; refine R_p rfl ?_ rfl rfl; refine R_nil ?_)
          refine hJ (j + 1) _ _ ⟨by omega, fun q hq => ?_⟩ (Sub.cons rfl (Sub.cons rfl (Sub.cons rfl (Sub.cons rfl (Sub.cons rfl (Sub.cons rfl (Sub.cons rfl (Sub.cons rfl Sub.nil)))))))) sub_st (by omega)
          rcases Nat.lt_or_ge q j with h3 | h3
          · exact hno q h3
          · rw [show q = j by omega, hhit]; simp
      · focus (refine S_seq rfl ?_; refine S_region rfl rfl ?_; refine R_take (T_decT rfl (by omega)) ?_ rfl rfl; refine R_nil ?_; refine S_seq rfl ?_; refine S_true rfl rfl ?_; refine S_skip rfl ?_; refine S_seq rfl ?_; refine S_block rfl ?_; refine S_seq rfl ?_; refine S_region rfl rfl ?_; refine R_p rfl ?_ rfl rfl; refine R_take (T_ixM (sz := 3) rfl rfl rfl rfl rfl rfl hne2 hjl) ?_ rfl rfl; refine R_take (T_lda (ds := emc m) rfl rfl rfl (Srd.old h2 (fun k _ => noOwns k)) rfl (by omega) hat) ?_ rfl rfl; (refine R_eff (E_alloca rfl em_zero) ?_ rfl rfl; rintro _ _ ⟨b11, rfl, rfl⟩); refine R_p rfl ?_ rfl rfl; (refine R_eff0 (E_storew (cs := emc (0, 0, none, 0, [])) (ds := emc m) rfl rfl rfl rfl (emc_one _) rfl) ?_ rfl; rintro _ _ rfl); refine R_nil ?_; refine S_seq rfl ?_; refine S_region rfl rfl ?_; refine R_p rfl ?_ rfl rfl; refine R_take (T_load rfl rfl rfl rfl) ?_ rfl rfl; refine R_p rfl ?_ rfl rfl; refine R_take (T_convf rfl rfl rfl rfl (by unfold fits; omega)) ?_ rfl rfl; refine R_take (T_addN rfl rfl (by unfold fits; omega)) ?_ rfl rfl; refine R_take (T_addN rfl rfl (by unfold fits; omega)) ?_ rfl rfl; refine R_p rfl ?_ rfl rfl; refine R_take (T_load rfl rfl rfl rfl) ?_ rfl rfl; refine R_take (T_build2 rfl rfl (at_built2 (pi + j + 1) m.1)) ?_ rfl rfl; (refine R_eff (E_alloca rfl at_zero) ?_ rfl rfl; rintro _ _ ⟨b12, rfl, rfl⟩); (refine R_eff0 (E_storew (cs := atc (0, 0)) (ds := atc (pi + j + 1, m.1)) rfl rfl rfl rfl (atc_one _) rfl) ?_ rfl; rintro _ _ rfl); refine R_nil ?_; refine S_seq rfl ?_; refine S_seq rfl ?_; refine S_region rfl rfl ?_; refine R_p rfl ?_ rfl rfl; refine R_take (T_load rfl rfl rfl rfl) ?_ rfl rfl; refine R_p rfl ?_ rfl rfl; refine R_p rfl ?_ rfl rfl; refine R_take (T_load rfl rfl rfl rfl) ?_ rfl rfl; refine R_take (T_decT rfl (by omega)) ?_ rfl rfl; refine R_p rfl ?_ rfl rfl; refine R_skip ?_ rfl rfl; refine R_skip ?_ rfl rfl; refine R_skip ?_ rfl rfl; refine R_p rfl ?_ rfl rfl; refine R_nil ?_; refine S_true rfl rfl ?_; refine S_exit rfl rfl ?_; refine S_region rfl rfl ?_; refine R_take (T_addN rfl rfl (by unfold fits; omega)) ?_ rfl rfl; refine R_p rfl ?_ rfl rfl; refine R_nil ?_)
        refine hJ (j + 1) _ _ ⟨by omega, fun q hq => ?_⟩ (Sub.cons rfl (Sub.cons rfl (Sub.cons rfl (Sub.cons rfl (Sub.cons rfl (Sub.cons rfl (Sub.cons rfl (Sub.cons rfl Sub.nil)))))))) sub_st (by omega)
        rcases Nat.lt_or_ge q j with h3 | h3
        · exact hno q h3
        · rw [show q = j by omega, hhit, decide_eq_false hgt]; rfl
    have hjn : j = k2 := by omega
    subst hjn
    rw [first_none fun q hq => hno q (by omega)] at hs
    dsimp only at hs
    injection hs with e1 e2
    injection e2 with e2 e3
    injection e3 with e3 e4
    subst e1 e2 e3 e4 hK
    rw [hll] at hB
    focus (refine S_seq rfl ?_; refine S_region rfl rfl ?_; refine R_take (T_decF rfl (by omega)) ?_ rfl rfl; refine R_nil ?_; refine S_seq rfl ?_; refine S_false rfl rfl ?_; refine S_exit rfl rfl ?_; refine S_seq rfl ?_; refine S_region rfl rfl ?_; refine R_take (T_loads (ds := lgc (i, t) A k c) rfl rfl rfl rfl rfl) ?_ rfl rfl; (refine R_eff (E_hvG (f := 47) ⟨_, Try.func47, rfl, by kernel_rfl⟩ (fun w hS => copyD_any w (i, t) A c k Q l hk hl ((Srd.old h (fun k _ => noOwns k)).rd w hS) ((SDt.old hd (fun k _ => noOwns k)).rd w hS) (by omega) hkk) rfl rfl) ?_ rfl rfl; rintro _ _ ⟨⟨⟨A5, c5⟩, P5⟩, rfl, hc5, rfl⟩; dsimp only [List.cons_append, List.nil_append]); refine R_p rfl ?_ rfl rfl; (refine R_eff0 (E_storew (cs := lgc (0, 0) none 0 0) (ds := lgc (i, t) A5 k c5) rfl rfl rfl rfl (lgc_one _ _ _ _) rfl) ?_ rfl; rintro _ _ rfl); refine R_p rfl ?_ rfl rfl; refine R_p rfl ?_ rfl rfl; refine R_nil ?_)
    refine hB _ _ _ _ _ rfl (.cell rfl rfl rfl inferInstance rfl (.tmp rfl (.tmp rfl .nil))) fun w' hS => ⟨((A5, c5), P5), rfl, trivial, sub_st _ hS⟩
  by_cases hge : i ≤ pi
  · obtain rfl : q0 = true := by cases q0 <;> simp_all
    focus (refine S_seq rfl ?_; refine S_region rfl rfl ?_; (refine R_eff (E_boxa (cs := lgc (i, t) A k c) rfl) ?_ rfl rfl; rintro _ _ ⟨b3, rfl, rfl⟩); (refine R_eff (E_boxa (cs := atc (pi, pu)) rfl) ?_ rfl rfl; rintro _ _ ⟨b4, rfl, rfl⟩); (refine R_eff (E_alloca rfl lg_zero) ?_ rfl rfl; rintro _ _ ⟨b6, rfl, rfl⟩); refine R_p rfl ?_ rfl rfl; refine R_p rfl ?_ rfl rfl; refine R_nil ?_; refine S_seq rfl ?_; refine S_seq rfl ?_; refine S_region rfl rfl ?_; refine R_p rfl ?_ rfl rfl; refine R_take (T_load rfl rfl rfl rfl) ?_ rfl rfl; refine R_take (T_decF rfl (by omega)) ?_ rfl rfl; refine R_p rfl ?_ rfl rfl; refine R_p rfl ?_ rfl rfl; refine R_p rfl ?_ rfl rfl; refine R_take (T_convf rfl rfl rfl rfl (by unfold fits; omega)) ?_ rfl rfl; refine R_p rfl ?_ rfl rfl; refine R_take (T_load rfl rfl rfl rfl) ?_ rfl rfl; refine R_take (T_subN rfl rfl (by omega) (by unfold fits; omega)) ?_ rfl rfl; refine R_take (T_decF rfl (by omega)) ?_ rfl rfl; refine R_p rfl ?_ rfl rfl; refine R_p rfl ?_ rfl rfl; refine R_p rfl ?_ rfl rfl; refine R_p rfl ?_ rfl rfl; refine R_take (T_load rfl rfl rfl rfl) ?_ rfl rfl; ((refine R_eff (E_hv0 (f := 45) ⟨_, Try.func45, rfl, by kernel_rfl⟩ (fun w hS => risingD_k w A2 cE k2 E es pu hk2 hl2 ((Srd.old h2 (fun k _ => noOwns k)).rd w hS) (by omega) _ hrs) rfl rfl (fun _ => rfl)) ?_ rfl rfl; rintro _ _ ⟨_, rfl, _, rfl⟩)); refine R_take (T_not rfl) ?_ rfl rfl; refine R_p rfl ?_ rfl rfl; refine R_nil ?_; refine S_false rfl rfl ?_; refine S_skip rfl ?_; refine S_seq rfl ?_; refine S_seq rfl ?_; refine S_region rfl rfl ?_; refine R_p rfl ?_ rfl rfl; refine R_take (T_load rfl rfl rfl rfl) ?_ rfl rfl; refine R_p rfl ?_ rfl rfl; refine R_p rfl ?_ rfl rfl; refine R_take (T_load rfl rfl rfl rfl) ?_ rfl rfl; refine R_take (T_decT rfl (by omega)) ?_ rfl rfl; refine R_take (T_decT rfl (by omega)) ?_ rfl rfl; refine R_take (T_loads (ds := lgc (i, t) A k c) rfl rfl rfl rfl rfl) ?_ rfl rfl; refine R_take (T_loads (ds := atc (pi, pu)) rfl rfl rfl rfl rfl) ?_ rfl rfl; ((refine R_eff (E_hv0 (f := 36) ⟨_, Try.func36, rfl, by kernel_rfl⟩ (fun w hS => hasD_any w (i, t) A c k Q l hk hl ((Srd.old h (fun k _ => noOwns k)).rd w hS) (by omega) hfit (pi, pu) _ hh0) rfl rfl (fun _ => rfl)) ?_ rfl rfl; rintro _ _ ⟨_, rfl, _, rfl⟩)); refine R_take (T_not rfl) ?_ rfl rfl; refine R_p rfl ?_ rfl rfl; refine R_nil ?_; refine S_false rfl rfl ?_; refine S_skip rfl ?_; refine S_seq rfl ?_; refine S_region rfl rfl ?_; refine R_p rfl ?_ rfl rfl; refine R_take (T_load rfl rfl rfl rfl) ?_ rfl rfl; refine R_p rfl ?_ rfl rfl; refine R_p rfl ?_ rfl rfl; refine R_take (T_convf rfl rfl rfl rfl (by unfold fits; omega)) ?_ rfl rfl; refine R_take (T_addN rfl rfl (by unfold fits; omega)) ?_ rfl rfl; refine R_p rfl ?_ rfl rfl; refine R_nil ?_; refine S_seq rfl ?_; refine S_seq rfl ?_; refine S_region rfl rfl ?_; refine R_p rfl ?_ rfl rfl; refine R_p rfl ?_ rfl rfl; refine R_p rfl ?_ rfl rfl; refine R_nil ?_; refine S_block rfl ?_)
    exact RS_sub (Sub.cons rfl (Sub.cons rfl (Sub.cons rfl (Sub.cons rfl (Sub.cons rfl (Sub.cons rfl (Sub.cons rfl (Sub.cons rfl Sub.nil)))))))) (RS_mem sub_st (hmain b3 b4 b6))
  · skip
    focus (refine S_seq rfl ?_; refine S_region rfl rfl ?_; (refine R_eff (E_boxa (cs := lgc (i, t) A k c) rfl) ?_ rfl rfl; rintro _ _ ⟨b3, rfl, rfl⟩); (refine R_eff (E_boxa (cs := atc (pi, pu)) rfl) ?_ rfl rfl; rintro _ _ ⟨b4, rfl, rfl⟩); (refine R_eff (E_alloca rfl lg_zero) ?_ rfl rfl; rintro _ _ ⟨b6, rfl, rfl⟩); refine R_p rfl ?_ rfl rfl; refine R_p rfl ?_ rfl rfl; refine R_nil ?_; refine S_seq rfl ?_; refine S_seq rfl ?_; refine S_region rfl rfl ?_; refine R_p rfl ?_ rfl rfl; refine R_take (T_load rfl rfl rfl rfl) ?_ rfl rfl; refine R_take (T_decF rfl (by omega)) ?_ rfl rfl; refine R_p rfl ?_ rfl rfl; refine R_p rfl ?_ rfl rfl; refine R_p rfl ?_ rfl rfl; refine R_take (T_convf rfl rfl rfl rfl (by unfold fits; omega)) ?_ rfl rfl; refine R_p rfl ?_ rfl rfl; refine R_take (T_load rfl rfl rfl rfl) ?_ rfl rfl; refine R_take (T_subN rfl rfl (by omega) (by unfold fits; omega)) ?_ rfl rfl; refine R_take (T_decF rfl (by omega)) ?_ rfl rfl; refine R_p rfl ?_ rfl rfl; refine R_p rfl ?_ rfl rfl; refine R_p rfl ?_ rfl rfl; refine R_p rfl ?_ rfl rfl; refine R_take (T_load rfl rfl rfl rfl) ?_ rfl rfl; ((refine R_eff (E_hv0 (f := 45) ⟨_, Try.func45, rfl, by kernel_rfl⟩ (fun w hS => risingD_k w A2 cE k2 E es pu hk2 hl2 ((Srd.old h2 (fun k _ => noOwns k)).rd w hS) (by omega) _ hrs) rfl rfl (fun _ => rfl)) ?_ rfl rfl; rintro _ _ ⟨_, rfl, _, rfl⟩)); refine R_take (T_not rfl) ?_ rfl rfl; refine R_p rfl ?_ rfl rfl; refine R_nil ?_; refine S_false rfl rfl ?_; refine S_skip rfl ?_; refine S_seq rfl ?_; refine S_seq rfl ?_; refine S_region rfl rfl ?_; refine R_p rfl ?_ rfl rfl; refine R_take (T_load rfl rfl rfl rfl) ?_ rfl rfl; refine R_p rfl ?_ rfl rfl; refine R_p rfl ?_ rfl rfl; refine R_take (T_load rfl rfl rfl rfl) ?_ rfl rfl; refine R_take (T_decF rfl (by omega)) ?_ rfl rfl; refine R_p rfl ?_ rfl rfl; refine R_skip ?_ rfl rfl; refine R_skip ?_ rfl rfl; refine R_skip ?_ rfl rfl; refine R_skip ?_ rfl rfl; refine R_p rfl ?_ rfl rfl; refine R_nil ?_; refine S_false rfl rfl ?_; refine S_skip rfl ?_; refine S_seq rfl ?_; refine S_region rfl rfl ?_; refine R_p rfl ?_ rfl rfl; refine R_take (T_load rfl rfl rfl rfl) ?_ rfl rfl; refine R_p rfl ?_ rfl rfl; refine R_p rfl ?_ rfl rfl; refine R_take (T_convf rfl rfl rfl rfl (by unfold fits; omega)) ?_ rfl rfl; refine R_take (T_addN rfl rfl (by unfold fits; omega)) ?_ rfl rfl; refine R_p rfl ?_ rfl rfl; refine R_nil ?_; refine S_seq rfl ?_; refine S_seq rfl ?_; refine S_region rfl rfl ?_; refine R_p rfl ?_ rfl rfl; refine R_p rfl ?_ rfl rfl; refine R_p rfl ?_ rfl rfl; refine R_nil ?_; refine S_block rfl ?_)
    exact RS_sub (Sub.cons rfl (Sub.cons rfl (Sub.cons rfl (Sub.cons rfl (Sub.cons rfl (Sub.cons rfl (Sub.cons rfl (Sub.cons rfl Sub.nil)))))))) (RS_mem sub_st (hmain b3 b4 b6))
end Go.Proofs.Ytkdpfnaaopimoaa
