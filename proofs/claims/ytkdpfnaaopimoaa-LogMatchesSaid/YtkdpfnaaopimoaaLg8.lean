/- Logs: Compact, Term, Has, Check. -/
import Derived.Test.YtkdpfnaaopimoaaLg7
import Derived.Test.YtkdpfnaaopimoaaRkK
namespace Go.Proofs.Ytkdpfnaaopimoaa
open Go.RowKit
open Asn (pt row rb)
set_option linter.unusedVariables false
set_option linter.unusedSimpArgs false
--@use N

/-- a log without its first entries: an error, its base, its entries -/
def cmp (a : At) (l : List En) (idx : Nat) : Int × At × List En :=
  if rightB a l = true then (if (findR a l idx).1 < 0 then (4, (0, 0), []) else (0, (findR a l idx).2, l.drop (findR a l idx).1.toNat)) else (220, (0, 0), [])
theorem findR_cases (a : At) (l : List En) (idx : Nat) : (∃ n : Nat, findR a l idx = ((n : Int), placeN a l n) ∧ n ≤ l.length ∧ a.1 + n = idx) ∨ (findR a l idx = (-1, (0, 0)) ∧ ¬ (a.1 ≤ idx ∧ idx ≤ a.1 + l.length)) := by
  unfold findR
  by_cases hc : a.1 ≤ idx ∧ idx ≤ a.1 + l.length
  · rw [if_pos hc]
    exact .inl ⟨idx - a.1, rfl, by omega, by omega⟩
  · rw [if_neg hc]
    exact .inr ⟨rfl, hc⟩
set_option maxRecDepth 100000 in
set_option maxHeartbeats 4000000 in
theorem compact_any (w : World) (a : At) (A : Option Addr) (c : Nat) (Q : List Em) (h : Rd w All 3 A Q.length (cellsL emc Q)) (hd : RDt w All (Q.map emd)) (hc : Q.length ≤ c) (hn : Q.length ≤ 1000) (hk : ∀ m ∈ Q, m.2.2.2.2.length ≤ 100000) (idx : Nat) :
    Gives Try.prog 21 [.agg (lgc a A Q.length c).toArray, .int .u64 (idx : Int)] [] w (X := (Option Addr × Nat) × List Em) (fun x => .tuple #[.agg (lgc (cmp a (Q.map emv) idx).2.1 x.1.1 (cmp a (Q.map emv) idx).2.2.length x.1.2).toArray, zi (cmp a (Q.map emv) idx).1]) (fun x => x.2.map emv = (cmp a (Q.map emv) idx).2.2 ∧ (cmp a (Q.map emv) idx).2.2.length ≤ x.1.2) (fun x => [row 44 3 x.1.1 (cmp a (Q.map emv) idx).2.2.length x.1.2 (cellsL emc x.2), dtB 5 (x.2.map emd)]) := by
  refine gives_C Try.func21 rfl Try.ntmps21 Try.results21 (by simp) (St.enter w) (fun B hB => ?_)
  obtain ⟨i, t⟩ := a
  obtain ⟨l, hl⟩ : ∃ l, Q.map emv = l := ⟨_, rfl⟩
  have hll : l.length = Q.length := by rw [← hl, List.length_map]
  rw [hl] at hB
  obtain ⟨r, hr0⟩ : ∃ r, rightB (i, t) l = r := ⟨_, rfl⟩
  have hr : rightB (i, t) (Q.map emv) = r := by rw [hl]; exact hr0
  cases r
  · have hs : cmp (i, t) l idx = (220, (0, 0), []) := by unfold cmp; rw [hr0]; rfl
    rw [hs] at hB
    focus (refine S_seq rfl ?_; refine S_region rfl rfl ?_; (refine R_eff (E_boxa (cs := lgc (i, t) A Q.length c) rfl) ?_ rfl rfl; rintro _ _ ⟨b2, rfl, rfl⟩); (refine R_eff (E_alloca rfl lg_zero) ?_ rfl rfl; rintro _ _ ⟨b4, rfl, rfl⟩); refine R_p rfl ?_ rfl rfl; refine R_nil ?_; refine S_seq rfl ?_; refine S_seq rfl ?_; refine S_region rfl rfl ?_; refine R_take (T_loads (ds := lgc (i, t) A Q.length c) rfl rfl rfl rfl rfl) ?_ rfl rfl; ((refine R_eff (E_hv0 (f := 40) ⟨_, Try.func40, rfl, by kernel_rfl⟩ (fun w hS => right_any w (i, t) A c Q ((Srd.old h (fun k _ => noOwns k)).rd w hS) (by omega)) rfl rfl (fun _ => rfl)) ?_ rfl rfl; rintro _ _ ⟨_, rfl, _, rfl⟩); rw [hr]); refine R_take (T_not rfl) ?_ rfl rfl; refine R_nil ?_; refine S_true rfl rfl ?_; refine S_seq rfl ?_; refine S_region rfl rfl ?_; refine R_take (T_build0 lg_built0) ?_ rfl rfl; (refine R_eff0 (E_storew (cs := lgc (0, 0) none 0 0) (ds := lgc (0, 0) none 0 0) rfl rfl rfl rfl (lgc_one _ _ _ _) rfl) ?_ rfl; rintro _ _ rfl); refine R_p rfl ?_ rfl rfl; refine R_nil ?_)
    refine hB _ _ _ _ _ rfl (.cell rfl rfl rfl inferInstance rfl (.tmp rfl .nil)) fun w' hS => ⟨((none, 0), []), rfl, ⟨rfl, Nat.le_refl _⟩, dtB_nil2 (hS.sublist (List.nil_sublist _))⟩
  have hff := right_fits hr0
  have hfit : (i, t).1 + Q.length ≤ 18446744073709551615 := by rw [← hll]; show i + _ ≤ _; have : i + l.length ≤ _ := hff.2; omega
  obtain ⟨⟨k, q⟩, hf0⟩ : ∃ x, findR (i, t) l idx = x := ⟨_, rfl⟩
  have hfi : findR (i, t) (Q.map emv) idx = (k, q) := by rw [hl]; exact hf0
  have hs : cmp (i, t) l idx = if k < 0 then ((4, (0, 0), []) : Int × At × List En) else (0, q, l.drop k.toNat) := by
    unfold cmp
    rw [if_pos hr0, hf0]
  rw [hs] at hB
  rcases findR_cases (i, t) l idx with ⟨n, hfn, hnl, hni⟩ | ⟨hfn, _⟩
  · rw [hf0] at hfn
    injection hfn with e1 e2
    subst e1
    rw [if_neg (by omega), Int.toNat_natCast] at hB
    have hcutr := rd_cutE (q := n) h (by omega) hc
    have hcutd := rdt_drop hd n
    have hkd : ∀ m ∈ Q.drop n, m.2.2.2.2.length ≤ 100000 := fun m hm => hk m (List.mem_of_mem_drop hm)
    have hdl : (l.drop n).length = Q.length - n := by rw [List.length_drop, hll]
    have hnl : n ≤ Q.length := by omega
    focus (refine S_seq rfl ?_; refine S_region rfl rfl ?_; (refine R_eff (E_boxa (cs := lgc (i, t) A Q.length c) rfl) ?_ rfl rfl; rintro _ _ ⟨b2, rfl, rfl⟩); (refine R_eff (E_alloca rfl lg_zero) ?_ rfl rfl; rintro _ _ ⟨b4, rfl, rfl⟩); refine R_p rfl ?_ rfl rfl; refine R_nil ?_; refine S_seq rfl ?_; refine S_seq rfl ?_; refine S_region rfl rfl ?_; refine R_take (T_loads (ds := lgc (i, t) A Q.length c) rfl rfl rfl rfl rfl) ?_ rfl rfl; ((refine R_eff (E_hv0 (f := 40) ⟨_, Try.func40, rfl, by kernel_rfl⟩ (fun w hS => right_any w (i, t) A c Q ((Srd.old h (fun k _ => noOwns k)).rd w hS) (by omega)) rfl rfl (fun _ => rfl)) ?_ rfl rfl; rintro _ _ ⟨_, rfl, _, rfl⟩); rw [hr]); refine R_take (T_not rfl) ?_ rfl rfl; refine R_nil ?_; refine S_false rfl rfl ?_; refine S_skip rfl ?_; refine S_seq rfl ?_; refine S_region rfl rfl ?_; refine R_take (T_loads (ds := lgc (i, t) A Q.length c) rfl rfl rfl rfl rfl) ?_ rfl rfl; refine R_p rfl ?_ rfl rfl; ((refine R_eff (E_hv0 (f := 51) ⟨_, Try.func51, rfl, by kernel_rfl⟩ (fun w hS => find_any w (i, t) A c Q ((Srd.old h (fun k _ => noOwns k)).rd w hS) (by omega) hfit idx) rfl rfl (fun _ => rfl)) ?_ rfl rfl; rintro _ _ ⟨_, rfl, _, rfl⟩); rw [hfi]); refine R_p rfl ?_ rfl rfl; refine R_p rfl ?_ rfl rfl; refine R_p rfl ?_ rfl rfl; (refine R_eff (E_alloca rfl at_zero) ?_ rfl rfl; rintro _ _ ⟨b7, rfl, rfl⟩); refine R_p rfl ?_ rfl rfl; (refine R_eff0 (E_storew (cs := atc (0, 0)) (ds := atc q) rfl rfl rfl rfl (atc_one _) rfl) ?_ rfl; rintro _ _ rfl); refine R_nil ?_; refine S_seq rfl ?_; refine S_seq rfl ?_; refine S_region rfl rfl ?_; refine R_p rfl ?_ rfl rfl; refine R_take (T_decF rfl (by omega)) ?_ rfl rfl; refine R_nil ?_; refine S_false rfl rfl ?_; refine S_skip rfl ?_; refine S_seq rfl ?_)
    refine S_draw ([pt b7 24 (atc q), pt b2 27 (lgc (i, t) A Q.length c)]) sub_st (by kernel_rfl) rfl (by kernel_rfl) (by kernel_rfl : _ = 9) ?_
    refine D_take 0 rfl (T_loads (ds := atc q) rfl rfl rfl rfl rfl) ?_ rfl rfl (by kernel_rfl) (by kernel_rfl)
    refine D_take 1 rfl (pev_ok rfl) ?_ rfl rfl (by kernel_rfl) (by kernel_rfl)
    refine D_take 2 rfl (T_load rfl rfl rfl rfl) ?_ rfl rfl (by kernel_rfl) (by kernel_rfl)
    refine D_take 3 rfl (pev_ok rfl) ?_ rfl rfl (by kernel_rfl) (by kernel_rfl)
    refine D_take 4 rfl (T_slN (sz := 3) (q := n) rfl rfl rfl rfl rfl rfl hnl hc) ?_ rfl rfl (by kernel_rfl) (by kernel_rfl)
    refine D_one 5 rfl (E_cpW (Q := Q.drop n) (k := Q.length - n) rfl (by rw [List.length_drop]) (Srd.old hcutr (fun k _ => noOwns k)) (SDt.old hcutd (fun k _ => noOwns k)) (by omega) hkd) ?_ rfl rfl (by kernel_rfl)
    rintro _ _ ⟨A7, c7, E7, rfl, hne7, hc7, rfl⟩
    refine Nx_same sub_st ?_
    refine D_take 6 rfl (T_build2 rfl rfl (lg_built2 q _ _ _)) ?_ rfl rfl (by kernel_rfl) (by kernel_rfl)
    refine D_one 7 rfl (E_storew (cs := lgc (0, 0) none 0 0) (ds := lgc q A7 (Q.length - n) c7) rfl rfl rfl rfl (lgc_one _ _ _ _) rfl) ?_ rfl rfl (by kernel_rfl)
    rintro _ _ rfl
    refine Nx_same sub_st ?_
    refine D_take 8 rfl (pev_ok rfl) ?_ rfl rfl (by kernel_rfl) (by kernel_rfl)
    refine D_done ?_ (by kernel_rfl)
    skip
    skip
    dsimp only at hB
    rw [hdl] at hB
    refine hB _ _ _ _ _ rfl (.cell rfl rfl rfl inferInstance rfl (.tmp rfl .nil)) fun w' hS => ⟨((A7, c7), E7.1), rfl, ⟨?_, hc7⟩, sub_st _ hS⟩
    show E7.1.map emv = _
    rw [E7.2, List.map_drop, hl]
  · rw [hf0] at hfn
    injection hfn with e1 e2
    subst e1
    rw [if_pos (by omega)] at hB
    focus (refine S_seq rfl ?_; refine S_region rfl rfl ?_; (refine R_eff (E_boxa (cs := lgc (i, t) A Q.length c) rfl) ?_ rfl rfl; rintro _ _ ⟨b2, rfl, rfl⟩); (refine R_eff (E_alloca rfl lg_zero) ?_ rfl rfl; rintro _ _ ⟨b4, rfl, rfl⟩); refine R_p rfl ?_ rfl rfl; refine R_nil ?_; refine S_seq rfl ?_; refine S_seq rfl ?_; refine S_region rfl rfl ?_; refine R_take (T_loads (ds := lgc (i, t) A Q.length c) rfl rfl rfl rfl rfl) ?_ rfl rfl; ((refine R_eff (E_hv0 (f := 40) ⟨_, Try.func40, rfl, by kernel_rfl⟩ (fun w hS => right_any w (i, t) A c Q ((Srd.old h (fun k _ => noOwns k)).rd w hS) (by omega)) rfl rfl (fun _ => rfl)) ?_ rfl rfl; rintro _ _ ⟨_, rfl, _, rfl⟩); rw [hr]); refine R_take (T_not rfl) ?_ rfl rfl; refine R_nil ?_; refine S_false rfl rfl ?_; refine S_skip rfl ?_; refine S_seq rfl ?_; refine S_region rfl rfl ?_; refine R_take (T_loads (ds := lgc (i, t) A Q.length c) rfl rfl rfl rfl rfl) ?_ rfl rfl; refine R_p rfl ?_ rfl rfl; ((refine R_eff (E_hv0 (f := 51) ⟨_, Try.func51, rfl, by kernel_rfl⟩ (fun w hS => find_any w (i, t) A c Q ((Srd.old h (fun k _ => noOwns k)).rd w hS) (by omega) hfit idx) rfl rfl (fun _ => rfl)) ?_ rfl rfl; rintro _ _ ⟨_, rfl, _, rfl⟩); rw [hfi]); refine R_p rfl ?_ rfl rfl; refine R_p rfl ?_ rfl rfl; refine R_p rfl ?_ rfl rfl; (refine R_eff (E_alloca rfl at_zero) ?_ rfl rfl; rintro _ _ ⟨b7, rfl, rfl⟩); refine R_p rfl ?_ rfl rfl; (refine R_eff0 (E_storew (cs := atc (0, 0)) (ds := atc q) rfl rfl rfl rfl (atc_one _) rfl) ?_ rfl; rintro _ _ rfl); refine R_nil ?_; refine S_seq rfl ?_; refine S_seq rfl ?_; refine S_region rfl rfl ?_; refine R_p rfl ?_ rfl rfl; refine R_take (T_decT rfl (by omega)) ?_ rfl rfl; refine R_nil ?_; refine S_true rfl rfl ?_; refine S_seq rfl ?_; refine S_region rfl rfl ?_; refine R_take (T_build0 lg_built0) ?_ rfl rfl; (refine R_eff0 (E_storew (cs := lgc (0, 0) none 0 0) (ds := lgc (0, 0) none 0 0) rfl rfl rfl rfl (lgc_one _ _ _ _) rfl) ?_ rfl; rintro _ _ rfl); refine R_p rfl ?_ rfl rfl; refine R_nil ?_)
    refine hB _ _ _ _ _ rfl (.cell rfl rfl rfl inferInstance rfl (.tmp rfl .nil)) fun w' hS => ⟨((none, 0), []), rfl, ⟨rfl, Nat.le_refl _⟩, dtB_nil2 (hS.sublist (List.nil_sublist _))⟩
def termR (a : At) (l : List En) (idx : Nat) : Nat × Bool := if rightB a l = true then ((findR a l idx).2.2, decide (0 ≤ (findR a l idx).1)) else (0, false)
set_option maxRecDepth 100000 in
set_option maxHeartbeats 4000000 in
theorem term_any (w : World) (a : At) (A : Option Addr) (c : Nat) (Q : List Em) (h : Rd w All 3 A Q.length (cellsL emc Q)) (hn : Q.length ≤ 1000) (idx : Nat) :
    Gives Try.prog 25 [.agg (lgc a A Q.length c).toArray, .int .u64 (idx : Int)] [] w (X := Unit) (fun _ => .tuple #[.int .u64 ((termR a (Q.map emv) idx).1 : Int), .bool (termR a (Q.map emv) idx).2]) (fun _ => True) (fun _ => []) := by
  refine gives_S Try.func25 rfl Try.ntmps25 Try.results25 (by simp) (St.enter w) (fun B hB => ?_)
  obtain ⟨i, t⟩ := a
  obtain ⟨l, hl⟩ : ∃ l, Q.map emv = l := ⟨_, rfl⟩
  have hll : l.length = Q.length := by rw [← hl, List.length_map]
  rw [hl] at hB
  obtain ⟨r, hr0⟩ : ∃ r, rightB (i, t) l = r := ⟨_, rfl⟩
  have hr : rightB (i, t) (Q.map emv) = r := by rw [hl]; exact hr0
  cases r
  · have hs : termR (i, t) l idx = (0, false) := by unfold termR; rw [hr0]; rfl
    rw [hs] at hB
    focus (refine S_seq rfl ?_; refine S_region rfl rfl ?_; (refine R_eff (E_boxa (cs := lgc (i, t) A Q.length c) rfl) ?_ rfl rfl; rintro _ _ ⟨b2, rfl, rfl⟩); refine R_p rfl ?_ rfl rfl; refine R_p rfl ?_ rfl rfl; refine R_nil ?_; refine S_seq rfl ?_; refine S_seq rfl ?_; refine S_region rfl rfl ?_; refine R_take (T_loads (ds := lgc (i, t) A Q.length c) rfl rfl rfl rfl rfl) ?_ rfl rfl; ((refine R_eff (E_hv0 (f := 40) ⟨_, Try.func40, rfl, by kernel_rfl⟩ (fun w hS => right_any w (i, t) A c Q ((Srd.old h (fun k _ => noOwns k)).rd w hS) (by omega)) rfl rfl (fun _ => rfl)) ?_ rfl rfl; rintro _ _ ⟨_, rfl, _, rfl⟩); rw [hr]); refine R_take (T_not rfl) ?_ rfl rfl; refine R_nil ?_; refine S_true rfl rfl ?_; refine S_seq rfl ?_; refine S_region rfl rfl ?_; refine R_p rfl ?_ rfl rfl; refine R_p rfl ?_ rfl rfl; refine R_nil ?_)
    exact hB _ _ _ _ _ rfl rfl fun w' hS => ⟨(), rfl, trivial, hS.sublist (List.nil_sublist _)⟩
  have hff := right_fits hr0
  have hfit : (i, t).1 + Q.length ≤ 18446744073709551615 := by rw [← hll]; show i + _ ≤ _; have : i + l.length ≤ _ := hff.2; omega
  obtain ⟨⟨k, q⟩, hf0⟩ : ∃ x, findR (i, t) l idx = x := ⟨_, rfl⟩
  have hfi : findR (i, t) (Q.map emv) idx = (k, q) := by rw [hl]; exact hf0
  have hs : termR (i, t) l idx = (q.2, decide (0 ≤ k)) := by
    unfold termR
    rw [if_pos hr0, hf0]
  rw [hs] at hB
  obtain ⟨qi, qu⟩ := q
  by_cases hk : 0 ≤ k
  · rw [decide_eq_true hk] at hB
    focus (refine S_seq rfl ?_; refine S_region rfl rfl ?_; (refine R_eff (E_boxa (cs := lgc (i, t) A Q.length c) rfl) ?_ rfl rfl; rintro _ _ ⟨b2, rfl, rfl⟩); refine R_p rfl ?_ rfl rfl; refine R_p rfl ?_ rfl rfl; refine R_nil ?_; refine S_seq rfl ?_; refine S_seq rfl ?_; refine S_region rfl rfl ?_; refine R_take (T_loads (ds := lgc (i, t) A Q.length c) rfl rfl rfl rfl rfl) ?_ rfl rfl; ((refine R_eff (E_hv0 (f := 40) ⟨_, Try.func40, rfl, by kernel_rfl⟩ (fun w hS => right_any w (i, t) A c Q ((Srd.old h (fun k _ => noOwns k)).rd w hS) (by omega)) rfl rfl (fun _ => rfl)) ?_ rfl rfl; rintro _ _ ⟨_, rfl, _, rfl⟩); rw [hr]); refine R_take (T_not rfl) ?_ rfl rfl; refine R_nil ?_; refine S_false rfl rfl ?_; refine S_skip rfl ?_; refine S_seq rfl ?_; refine S_region rfl rfl ?_; refine R_take (T_loads (ds := lgc (i, t) A Q.length c) rfl rfl rfl rfl rfl) ?_ rfl rfl; refine R_p rfl ?_ rfl rfl; ((refine R_eff (E_hv0 (f := 51) ⟨_, Try.func51, rfl, by kernel_rfl⟩ (fun w hS => find_any w (i, t) A c Q ((Srd.old h (fun k _ => noOwns k)).rd w hS) (by omega) hfit idx) rfl rfl (fun _ => rfl)) ?_ rfl rfl; rintro _ _ ⟨_, rfl, _, rfl⟩); rw [hfi]); refine R_p rfl ?_ rfl rfl; refine R_p rfl ?_ rfl rfl; refine R_p rfl ?_ rfl rfl; (refine R_eff (E_alloca rfl at_zero) ?_ rfl rfl; rintro _ _ ⟨b7, rfl, rfl⟩); refine R_p rfl ?_ rfl rfl; (refine R_eff0 (E_storew (cs := atc (0, 0)) (ds := atc (qi, qu)) rfl rfl rfl rfl (atc_one _) rfl) ?_ rfl; rintro _ _ rfl); refine R_nil ?_; refine S_seq rfl ?_; refine S_region rfl rfl ?_; refine R_p rfl ?_ rfl rfl; refine R_take (T_load rfl rfl rfl rfl) ?_ rfl rfl; refine R_p rfl ?_ rfl rfl; refine R_take (T_decT rfl (by omega)) ?_ rfl rfl; refine R_p rfl ?_ rfl rfl; refine R_take (T_decT rfl (by omega)) ?_ rfl rfl; refine R_nil ?_)
    exact hB _ _ _ _ _ rfl rfl fun w' hS => ⟨(), rfl, trivial, hS.sublist (List.nil_sublist _)⟩
  · rw [decide_eq_false hk] at hB
    focus (refine S_seq rfl ?_; refine S_region rfl rfl ?_; (refine R_eff (E_boxa (cs := lgc (i, t) A Q.length c) rfl) ?_ rfl rfl; rintro _ _ ⟨b2, rfl, rfl⟩); refine R_p rfl ?_ rfl rfl; refine R_p rfl ?_ rfl rfl; refine R_nil ?_; refine S_seq rfl ?_; refine S_seq rfl ?_; refine S_region rfl rfl ?_; refine R_take (T_loads (ds := lgc (i, t) A Q.length c) rfl rfl rfl rfl rfl) ?_ rfl rfl; ((refine R_eff (E_hv0 (f := 40) ⟨_, Try.func40, rfl, by kernel_rfl⟩ (fun w hS => right_any w (i, t) A c Q ((Srd.old h (fun k _ => noOwns k)).rd w hS) (by omega)) rfl rfl (fun _ => rfl)) ?_ rfl rfl; rintro _ _ ⟨_, rfl, _, rfl⟩); rw [hr]); refine R_take (T_not rfl) ?_ rfl rfl; refine R_nil ?_; refine S_false rfl rfl ?_; refine S_skip rfl ?_; refine S_seq rfl ?_; refine S_region rfl rfl ?_; refine R_take (T_loads (ds := lgc (i, t) A Q.length c) rfl rfl rfl rfl rfl) ?_ rfl rfl; refine R_p rfl ?_ rfl rfl; ((refine R_eff (E_hv0 (f := 51) ⟨_, Try.func51, rfl, by kernel_rfl⟩ (fun w hS => find_any w (i, t) A c Q ((Srd.old h (fun k _ => noOwns k)).rd w hS) (by omega) hfit idx) rfl rfl (fun _ => rfl)) ?_ rfl rfl; rintro _ _ ⟨_, rfl, _, rfl⟩); rw [hfi]); refine R_p rfl ?_ rfl rfl; refine R_p rfl ?_ rfl rfl; refine R_p rfl ?_ rfl rfl; (refine R_eff (E_alloca rfl at_zero) ?_ rfl rfl; rintro _ _ ⟨b7, rfl, rfl⟩); refine R_p rfl ?_ rfl rfl; (refine R_eff0 (E_storew (cs := atc (0, 0)) (ds := atc (qi, qu)) rfl rfl rfl rfl (atc_one _) rfl) ?_ rfl; rintro _ _ rfl); refine R_nil ?_; refine S_seq rfl ?_; refine S_region rfl rfl ?_; refine R_p rfl ?_ rfl rfl; refine R_take (T_load rfl rfl rfl rfl) ?_ rfl rfl; refine R_p rfl ?_ rfl rfl; refine R_take (T_decF rfl (by omega)) ?_ rfl rfl; refine R_p rfl ?_ rfl rfl; refine R_p rfl ?_ rfl rfl; refine R_nil ?_)
    exact hB _ _ _ _ _ rfl rfl fun w' hS => ⟨(), rfl, trivial, hS.sublist (List.nil_sublist _)⟩
set_option maxRecDepth 100000 in
set_option maxHeartbeats 4000000 in
theorem hasF_any (w : World) (a : At) (A : Option Addr) (c : Nat) (Q : List Em) (h : Rd w All 3 A Q.length (cellsL emc Q)) (hn : Q.length ≤ 1000) (p : At) :
    Gives Try.prog 29 [.agg (lgc a A Q.length c).toArray, .agg (atc p).toArray] [] w (X := Unit) (fun _ => .bool (rightB a (Q.map emv) && hasB a (Q.map emv) p)) (fun _ => True) (fun _ => []) := by
  refine gives_S Try.func29 rfl Try.ntmps29 Try.results29 (by simp) (St.enter w) (fun B hB => ?_)
  obtain ⟨i, t⟩ := a
  obtain ⟨r, hr⟩ : ∃ r, rightB (i, t) (Q.map emv) = r := ⟨_, rfl⟩
  obtain ⟨q, hq⟩ : ∃ q, hasB (i, t) (Q.map emv) p = q := ⟨_, rfl⟩
  rw [hr, hq] at hB
  cases r
  · rw [Bool.false_and] at hB
    focus (refine S_seq rfl ?_; refine S_region rfl rfl ?_; (refine R_eff (E_boxa (cs := lgc (i, t) A Q.length c) rfl) ?_ rfl rfl; rintro _ _ ⟨b2, rfl, rfl⟩); (refine R_eff (E_boxa (cs := atc p) rfl) ?_ rfl rfl; rintro _ _ ⟨b3, rfl, rfl⟩); refine R_p rfl ?_ rfl rfl; refine R_nil ?_; refine S_seq rfl ?_; refine S_region rfl rfl ?_; refine R_take (T_loads (ds := lgc (i, t) A Q.length c) rfl rfl rfl rfl rfl) ?_ rfl rfl; ((refine R_eff (E_hv0 (f := 40) ⟨_, Try.func40, rfl, by kernel_rfl⟩ (fun w hS => right_any w (i, t) A c Q ((Srd.old h (fun k _ => noOwns k)).rd w hS) (by omega)) rfl rfl (fun _ => rfl)) ?_ rfl rfl; rintro _ _ ⟨_, rfl, _, rfl⟩); rw [hr]); refine R_p rfl ?_ rfl rfl; refine R_skip ?_ rfl rfl; refine R_skip ?_ rfl rfl; refine R_skip ?_ rfl rfl; refine R_p rfl ?_ rfl rfl; refine R_p rfl ?_ rfl rfl; refine R_nil ?_)
    exact hB _ _ _ _ _ rfl rfl fun w' hS => ⟨(), rfl, trivial, hS.sublist (List.nil_sublist _)⟩
  have hff := right_fits hr
  rw [List.length_map] at hff
  have hfit : (i, t).1 + Q.length ≤ 18446744073709551615 := by show i + _ ≤ _; have : i + Q.length ≤ _ := hff.2; omega
  focus (refine S_seq rfl ?_; refine S_region rfl rfl ?_; (refine R_eff (E_boxa (cs := lgc (i, t) A Q.length c) rfl) ?_ rfl rfl; rintro _ _ ⟨b2, rfl, rfl⟩); (refine R_eff (E_boxa (cs := atc p) rfl) ?_ rfl rfl; rintro _ _ ⟨b3, rfl, rfl⟩); refine R_p rfl ?_ rfl rfl; refine R_nil ?_; refine S_seq rfl ?_; refine S_region rfl rfl ?_; refine R_take (T_loads (ds := lgc (i, t) A Q.length c) rfl rfl rfl rfl rfl) ?_ rfl rfl; ((refine R_eff (E_hv0 (f := 40) ⟨_, Try.func40, rfl, by kernel_rfl⟩ (fun w hS => right_any w (i, t) A c Q ((Srd.old h (fun k _ => noOwns k)).rd w hS) (by omega)) rfl rfl (fun _ => rfl)) ?_ rfl rfl; rintro _ _ ⟨_, rfl, _, rfl⟩); rw [hr]); refine R_take (T_decT rfl (by omega)) ?_ rfl rfl; refine R_take (T_loads (ds := lgc (i, t) A Q.length c) rfl rfl rfl rfl rfl) ?_ rfl rfl; refine R_take (T_loads (ds := atc p) rfl rfl rfl rfl rfl) ?_ rfl rfl; ((refine R_eff (E_hv0 (f := 42) ⟨_, Try.func42, rfl, by kernel_rfl⟩ (fun w hS => has_any w (i, t) A c Q ((Srd.old h (fun k _ => noOwns k)).rd w hS) (by omega) hfit p) rfl rfl (fun _ => rfl)) ?_ rfl rfl; rintro _ _ ⟨_, rfl, _, rfl⟩); rw [hq]); refine R_p rfl ?_ rfl rfl; refine R_p rfl ?_ rfl rfl; refine R_nil ?_)
  exact hB _ _ _ _ _ rfl rfl fun w' hS => ⟨(), rfl, trivial, hS.sublist (List.nil_sublist _)⟩
def chkE (a : At) (l : List En) (top : Nat) : Int := if rightB a l = true then (if top < (lastA a l).2 then 2 else 0) else 220
set_option maxRecDepth 100000 in
set_option maxHeartbeats 4000000 in
theorem checkL_any (w : World) (a : At) (A : Option Addr) (c : Nat) (Q : List Em) (h : Rd w All 3 A Q.length (cellsL emc Q)) (hn : Q.length ≤ 1000) (top : Nat) :
    Gives Try.prog 23 [.agg (lgc a A Q.length c).toArray, .int .u64 (top : Int)] [] w (X := Unit) (fun _ => zi (chkE a (Q.map emv) top)) (fun _ => True) (fun _ => []) := by
  refine gives_S Try.func23 rfl Try.ntmps23 Try.results23 (by simp) (St.enter w) (fun B hB => ?_)
  obtain ⟨i, t⟩ := a
  obtain ⟨r, hr⟩ : ∃ r, rightB (i, t) (Q.map emv) = r := ⟨_, rfl⟩
  obtain ⟨⟨li, lu⟩, hla⟩ : ∃ x, lastA (i, t) (Q.map emv) = x := ⟨_, rfl⟩
  have hs : chkE (i, t) (Q.map emv) top = if r = true then (if top < lu then 2 else 0) else 220 := by rw [chkE, hr, hla]
  rw [hs] at hB
  cases r
  · focus (refine S_seq rfl ?_; refine S_region rfl rfl ?_; (refine R_eff (E_boxa (cs := lgc (i, t) A Q.length c) rfl) ?_ rfl rfl; rintro _ _ ⟨b2, rfl, rfl⟩); refine R_p rfl ?_ rfl rfl; refine R_nil ?_; refine S_seq rfl ?_; refine S_block rfl ?_; refine S_seq rfl ?_; refine S_region rfl rfl ?_; refine R_take (T_loads (ds := lgc (i, t) A Q.length c) rfl rfl rfl rfl rfl) ?_ rfl rfl; ((refine R_eff (E_hv0 (f := 40) ⟨_, Try.func40, rfl, by kernel_rfl⟩ (fun w hS => right_any w (i, t) A c Q ((Srd.old h (fun k _ => noOwns k)).rd w hS) (by omega)) rfl rfl (fun _ => rfl)) ?_ rfl rfl; rintro _ _ ⟨_, rfl, _, rfl⟩); rw [hr]); refine R_take (T_not rfl) ?_ rfl rfl; refine R_take (T_decT rfl (by omega)) ?_ rfl rfl; refine R_nil ?_; refine S_true rfl rfl ?_; refine S_seq rfl ?_; refine S_region rfl rfl ?_; refine R_p rfl ?_ rfl rfl; refine R_nil ?_)
    exact hB _ _ _ _ _ rfl rfl fun w' hS => ⟨(), rfl, trivial, hS.sublist (List.nil_sublist _)⟩
  have hff := right_fits hr
  rw [List.length_map] at hff
  have hfit : (i, t).1 + Q.length ≤ 18446744073709551615 := by show i + _ ≤ _; have : i + Q.length ≤ _ := hff.2; omega
  rw [if_pos rfl] at hB
  by_cases ht : top < lu
  · rw [if_pos ht] at hB
    focus (refine S_seq rfl ?_; refine S_region rfl rfl ?_; (refine R_eff (E_boxa (cs := lgc (i, t) A Q.length c) rfl) ?_ rfl rfl; rintro _ _ ⟨b2, rfl, rfl⟩); refine R_p rfl ?_ rfl rfl; refine R_nil ?_; refine S_seq rfl ?_; refine S_block rfl ?_; refine S_seq rfl ?_; refine S_region rfl rfl ?_; refine R_take (T_loads (ds := lgc (i, t) A Q.length c) rfl rfl rfl rfl rfl) ?_ rfl rfl; ((refine R_eff (E_hv0 (f := 40) ⟨_, Try.func40, rfl, by kernel_rfl⟩ (fun w hS => right_any w (i, t) A c Q ((Srd.old h (fun k _ => noOwns k)).rd w hS) (by omega)) rfl rfl (fun _ => rfl)) ?_ rfl rfl; rintro _ _ ⟨_, rfl, _, rfl⟩); rw [hr]); refine R_take (T_not rfl) ?_ rfl rfl; refine R_p rfl ?_ rfl rfl; refine R_nil ?_; refine S_false rfl rfl ?_; refine S_seq rfl ?_; refine S_region rfl rfl ?_; refine R_take (T_loads (ds := lgc (i, t) A Q.length c) rfl rfl rfl rfl rfl) ?_ rfl rfl; ((refine R_eff (E_hv0 (f := 43) ⟨_, Try.func43, rfl, by kernel_rfl⟩ (fun w hS => last_any w (i, t) A c Q ((Srd.old h (fun k _ => noOwns k)).rd w hS) (by omega) hfit) rfl rfl (fun _ => rfl)) ?_ rfl rfl; rintro _ _ ⟨_, rfl, _, rfl⟩); rw [hla]); refine R_take (T_fldv (xs := atc (li, lu)) rfl rfl rfl rfl rfl rfl) ?_ rfl rfl; refine R_p rfl ?_ rfl rfl; refine R_take (T_decT rfl (by omega)) ?_ rfl rfl; refine R_take (T_decT rfl (by omega)) ?_ rfl rfl; refine R_nil ?_; refine S_true rfl rfl ?_; refine S_seq rfl ?_; refine S_region rfl rfl ?_; refine R_p rfl ?_ rfl rfl; refine R_nil ?_)
    exact hB _ _ _ _ _ rfl rfl fun w' hS => ⟨(), rfl, trivial, hS.sublist (List.nil_sublist _)⟩
  · rw [if_neg ht] at hB
    focus (refine S_seq rfl ?_; refine S_region rfl rfl ?_; (refine R_eff (E_boxa (cs := lgc (i, t) A Q.length c) rfl) ?_ rfl rfl; rintro _ _ ⟨b2, rfl, rfl⟩); refine R_p rfl ?_ rfl rfl; refine R_nil ?_; refine S_seq rfl ?_; refine S_block rfl ?_; refine S_seq rfl ?_; refine S_region rfl rfl ?_; refine R_take (T_loads (ds := lgc (i, t) A Q.length c) rfl rfl rfl rfl rfl) ?_ rfl rfl; ((refine R_eff (E_hv0 (f := 40) ⟨_, Try.func40, rfl, by kernel_rfl⟩ (fun w hS => right_any w (i, t) A c Q ((Srd.old h (fun k _ => noOwns k)).rd w hS) (by omega)) rfl rfl (fun _ => rfl)) ?_ rfl rfl; rintro _ _ ⟨_, rfl, _, rfl⟩); rw [hr]); refine R_take (T_not rfl) ?_ rfl rfl; refine R_p rfl ?_ rfl rfl; refine R_nil ?_; refine S_false rfl rfl ?_; refine S_seq rfl ?_; refine S_region rfl rfl ?_; refine R_take (T_loads (ds := lgc (i, t) A Q.length c) rfl rfl rfl rfl rfl) ?_ rfl rfl; ((refine R_eff (E_hv0 (f := 43) ⟨_, Try.func43, rfl, by kernel_rfl⟩ (fun w hS => last_any w (i, t) A c Q ((Srd.old h (fun k _ => noOwns k)).rd w hS) (by omega) hfit) rfl rfl (fun _ => rfl)) ?_ rfl rfl; rintro _ _ ⟨_, rfl, _, rfl⟩); rw [hla]); refine R_take (T_fldv (xs := atc (li, lu)) rfl rfl rfl rfl rfl rfl) ?_ rfl rfl; refine R_p rfl ?_ rfl rfl; refine R_take (T_decF rfl (by omega)) ?_ rfl rfl; refine R_p rfl ?_ rfl rfl; refine R_nil ?_; refine S_false rfl rfl ?_; refine S_skip rfl ?_; refine RS_blk ?_; refine S_seq rfl ?_; refine S_region rfl rfl ?_; refine R_p rfl ?_ rfl rfl; refine R_nil ?_)
    exact hB _ _ _ _ _ rfl rfl fun w' hS => ⟨(), rfl, trivial, hS.sublist (List.nil_sublist _)⟩
end Go.Proofs.Ytkdpfnaaopimoaa
