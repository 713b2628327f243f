/- Append; the document's Append and Compact. -/
import Derived.Test.YtkdpfnaaopimoaaLgN
namespace Go.Proofs.Ytkdpfnaaopimoaa
open Go.RowKit
open Asn (pt row rb)
set_option linter.unusedVariables false
set_option linter.unusedSimpArgs false
--@use N

/-- a log with an entry more: an error, its place, the base, the entries -/
def app (a : At) (l : List En) (x : En) : Int × At × At × List En :=
  if rightB a l = true then
    if placedB x = true ∧ (lastA a l).2 ≤ x.1 then
      if l.length = 16 ∨ (lastA a l).1 = 18446744073709551614 then (6, (0, 0), (0, 0), []) else (0, lastA a (l ++ [x]), a, l ++ [x])
    else (2, (0, 0), (0, 0), [])
  else (220, (0, 0), (0, 0), [])
theorem last_app (a : At) (l : List En) (x : En) : lastA a (l ++ [x]) = (a.1 + (l.length + 1), x.1) := by
  rw [lastA, lastT_app, List.length_append]
  rfl
theorem right_k (w : World) (a : At) (A : Option Addr) (c k : Nat) (Q : List Em) (l : List En) (hk : Q.length = k) (hl : Q.map emv = l) (h : Rd w All 3 A k (cellsL emc Q)) (hn : k ≤ 100000) (r : Bool) (hr : rightB a l = r) :
    Gives Try.prog 40 [.agg (lgc a A k c).toArray] [] w (X := Unit) (fun _ => .bool r) (fun _ => True) (fun _ => []) := by
  subst hk
  subst hl
  subst hr
  exact right_any w a A c Q h hn
theorem lastI_k (w : World) (a : At) (A : Option Addr) (c k : Nat) (Q : List Em) (l : List En) (hk : Q.length = k) (hl : Q.map emv = l) (h : Rd w All 3 A k (cellsL emc Q)) (hn : k ≤ 100000) (hf : a.1 + k ≤ 18446744073709551615) (p : At) (hp : lastA a l = p) :
    Gives Try.prog 43 [.agg (lgc a A k c).toArray] [] w (X := Unit) (fun _ => .agg (atc p).toArray) (fun _ => True) (fun _ => []) := by
  subst hk
  subst hl
  subst hp
  exact last_any w a A c Q h hn hf
theorem placed_k (w : World) (m : Em) (r : Bool) (hr : placedB (emv m) = r) :
    Gives Try.prog 49 [.agg (emc m).toArray] [] w (X := Unit) (fun _ => .bool r) (fun _ => True) (fun _ => []) := by
  subst hr
  exact placed_any w m
theorem rightE_k (w : World) (m : Em) (r : Bool) (hr : placedB (emv m) = r) :
    Gives Try.prog 50 [.agg (emc m).toArray] [] w (X := Unit) (fun _ => .bool r) (fun _ => True) (fun _ => []) := by
  subst hr
  exact rightEntry_any w m
theorem copied_S (w : World) (A : Option Addr) (c k : Nat) (Q : List Em) (l : List En) (hk : Q.length = k) (hl : Q.map emv = l) (h : Rd w All 3 A k (cellsL emc Q)) (hd : RDt w All (Q.map emd)) (hn : k ≤ 1000) (hkk : ∀ m ∈ Q, m.2.2.2.2.length ≤ 100000) :
    Gives Try.prog 44 [.slice A k c] [] w (X := (Option Addr × Nat) × Sh l) (fun x => .slice x.1.1 k x.1.2) (fun _ => True) (fun x => [row 44 3 x.1.1 k x.1.2 (cellsL emc x.2.1), dtB 5 (x.2.1.map emd)]) := by
  subst hk
  exact (copied_any w A c Q h hd hn hkk).mono fun u w' ⟨⟨⟨A5, c5⟩, P⟩, he, h1, hS⟩ => ⟨((A5, c5), ⟨P.1, P.2.trans hl, fun m hm => dtB_caps (e := 5) (D := P.1.map emd) hS (by simp) (emd m) (List.mem_map.2 ⟨m, hm, rfl⟩)⟩), he, trivial, hS⟩
set_option maxRecDepth 100000 in
set_option maxHeartbeats 4000000 in
theorem apA_any (w : World) (a : At) (A : Option Addr) (c k : Nat) (Q : List Em) (l : List En) (hk : Q.length = k) (hl : Q.map emv = l) (h : Rd w All 3 A k (cellsL emc Q)) (hd : RDt w All (Q.map emd)) (hn : k ≤ 1000) (hkk : ∀ m ∈ Q, m.2.2.2.2.length ≤ 100000) (m : Em) (hm : Rd w All 1 m.2.2.1 m.2.2.2.2.length (m.2.2.2.2.map bv)) (hmk : m.2.2.2.2.length ≤ 100000) (e : Int) (p b : At) (r : List En) (K : Nat) (hK : r.length = K) (hs : app a l (emv m) = (e, p, b, r)) :
    Gives Try.prog 19 [.agg (lgc a A k c).toArray, .agg (emc m).toArray] [] w (X := (Option Addr × Nat) × Sh r) (fun x => .tuple #[.agg (lgc b x.1.1 K x.1.2).toArray, .agg (atc p).toArray, zi e]) (fun _ => True) (fun x => [row 44 3 x.1.1 K x.1.2 (cellsL emc x.2.1), dtB 5 (x.2.1.map emd)]) := by
  refine gives_C Try.func19 rfl Try.ntmps19 Try.results19 (by simp) (St.enter w) (fun B hB => ?_)
  obtain ⟨i, t⟩ := a
  have hll : l.length = k := by rw [← hl, List.length_map, hk]
  obtain ⟨lt, hla0⟩ : ∃ x, (lastA (i, t) l).2 = x := ⟨_, rfl⟩
  have hla : lastA (i, t) l = (i + k, lt) := by
    have : lastA (i, t) l = (i + k, (lastA (i, t) l).2) := by rw [lastA, hll]
    rw [this, hla0]
  obtain ⟨q0, hp⟩ : ∃ q, placedB (emv m) = q := ⟨_, rfl⟩
  have hla8 : lastA (i, t) (l ++ [emv m]) = (i + (k + 1), m.1) := by rw [last_app, hll]; rfl
  obtain ⟨r0, hr0⟩ : ∃ q, rightB (i, t) l = q := ⟨_, rfl⟩
  have hs : (if r0 = true then if q0 = true ∧ lt ≤ m.1 then if k = 16 ∨ i + k = 18446744073709551614 then (6, (0, 0), (0, 0), []) else (0, lastA (i, t) (l ++ [emv m]), (i, t), l ++ [emv m]) else (2, (0, 0), (0, 0), []) else ((220, (0, 0), (0, 0), []) : Int × At × At × List En)) = (e, p, b, r) := by
    rw [← hs, app, hr0, hp, hla, hll]
    rfl
  cases r0
  · rw [if_neg Bool.false_ne_true] at hs
    injection hs with e1 e2
    injection e2 with e2 e3
    injection e3 with e3 e4
    subst e1 e2 e3 e4 hK
    focus (refine S_seq rfl ?_; refine S_region rfl rfl ?_; (refine R_eff (E_boxa (cs := lgc (i, t) A k c) rfl) ?_ rfl rfl; rintro _ _ ⟨b2, rfl, rfl⟩); (refine R_eff (E_boxa (cs := emc m) rfl) ?_ rfl rfl; rintro _ _ ⟨b3, rfl, rfl⟩); (refine R_eff (E_alloca rfl lg_zero) ?_ rfl rfl; rintro _ _ ⟨b4, rfl, rfl⟩); (refine R_eff (E_alloca rfl at_zero) ?_ rfl rfl; rintro _ _ ⟨b5, rfl, rfl⟩); refine R_p rfl ?_ rfl rfl; refine R_nil ?_; refine S_seq rfl ?_; refine S_region rfl rfl ?_; refine R_p rfl ?_ rfl rfl; refine R_nil ?_; refine S_seq rfl ?_; refine S_block rfl ?_; refine S_seq rfl ?_; refine S_region rfl rfl ?_; refine R_take (T_loads (ds := lgc (i, t) A k c) rfl rfl rfl rfl rfl) ?_ rfl rfl; ((refine R_eff (E_hv0 (f := 40) ⟨_, Try.func40, rfl, by kernel_rfl⟩ (fun w hS => right_k w (i, t) A c k Q l hk hl ((Srd.old h (fun k _ => noOwns k)).rd w hS) (by omega) _ hr0) rfl rfl (fun _ => rfl)) ?_ rfl rfl; rintro _ _ ⟨_, rfl, _, rfl⟩)); refine R_take (T_not rfl) ?_ rfl rfl; refine R_take (T_decT rfl (by omega)) ?_ rfl rfl; refine R_nil ?_; refine S_true rfl rfl ?_; refine S_region rfl rfl ?_; refine R_p rfl ?_ rfl rfl; refine R_nil ?_; refine RS_blk ?_; refine S_seq rfl ?_; refine S_seq rfl ?_; refine S_region rfl rfl ?_; refine R_p rfl ?_ rfl rfl; refine R_take (T_decT rfl (by omega)) ?_ rfl rfl; refine R_nil ?_; refine S_true rfl rfl ?_; refine S_seq rfl ?_; refine S_region rfl rfl ?_; refine R_take (T_build0 lg_built0) ?_ rfl rfl; refine R_take (T_build0 at_built0) ?_ rfl rfl; refine R_p rfl ?_ rfl rfl; (refine R_eff0 (E_storew (cs := lgc (0, 0) none 0 0) (ds := lgc (0, 0) none 0 0) rfl rfl rfl rfl (lgc_one _ _ _ _) rfl) ?_ rfl; rintro _ _ rfl); (refine R_eff0 (E_storew (cs := atc (0, 0)) (ds := atc (0, 0)) rfl rfl rfl rfl (atc_one _) rfl) ?_ rfl; rintro _ _ rfl); refine R_p rfl ?_ rfl rfl; refine R_nil ?_)
    refine hB _ _ _ _ _ rfl (.cell rfl rfl rfl inferInstance rfl (.cell rfl rfl rfl inferInstance rfl (.tmp rfl .nil))) fun w' hS => ⟨((none, 0), ⟨[], rfl, fun m hm => absurd hm (by simp)⟩), rfl, trivial, dtB_nil2 (hS.sublist (List.nil_sublist _))⟩
  have hff := right_fits hr0
  rw [hll] at hff
  have hff : k ≤ 16 ∧ i + k ≤ 18446744073709551614 := hff
  have hfit : (i, t).1 + k ≤ 18446744073709551615 := by show i + k ≤ _; omega
  rw [if_pos rfl] at hs
  cases q0
  · rw [if_neg (fun h => Bool.false_ne_true h.1)] at hs
    injection hs with e1 e2
    injection e2 with e2 e3
    injection e3 with e3 e4
    subst e1 e2 e3 e4 hK
    focus (refine S_seq rfl ?_; refine S_region rfl rfl ?_; (refine R_eff (E_boxa (cs := lgc (i, t) A k c) rfl) ?_ rfl rfl; rintro _ _ ⟨b2, rfl, rfl⟩); (refine R_eff (E_boxa (cs := emc m) rfl) ?_ rfl rfl; rintro _ _ ⟨b3, rfl, rfl⟩); (refine R_eff (E_alloca rfl lg_zero) ?_ rfl rfl; rintro _ _ ⟨b4, rfl, rfl⟩); (refine R_eff (E_alloca rfl at_zero) ?_ rfl rfl; rintro _ _ ⟨b5, rfl, rfl⟩); refine R_p rfl ?_ rfl rfl; refine R_nil ?_; refine S_seq rfl ?_; refine S_region rfl rfl ?_; refine R_p rfl ?_ rfl rfl; refine R_nil ?_; refine S_seq rfl ?_; refine S_block rfl ?_; refine S_seq rfl ?_; refine S_region rfl rfl ?_; refine R_take (T_loads (ds := lgc (i, t) A k c) rfl rfl rfl rfl rfl) ?_ rfl rfl; ((refine R_eff (E_hv0 (f := 40) ⟨_, Try.func40, rfl, by kernel_rfl⟩ (fun w hS => right_k w (i, t) A c k Q l hk hl ((Srd.old h (fun k _ => noOwns k)).rd w hS) (by omega) _ hr0) rfl rfl (fun _ => rfl)) ?_ rfl rfl; rintro _ _ ⟨_, rfl, _, rfl⟩)); refine R_take (T_not rfl) ?_ rfl rfl; refine R_p rfl ?_ rfl rfl; refine R_nil ?_; refine S_false rfl rfl ?_; refine S_seq rfl ?_)
    refine S_draw ([pt b3 44 (emc m), pt b2 27 (lgc (i, t) A k c)]) sub_st (by kernel_rfl) rfl (by kernel_rfl) (by kernel_rfl : _ = 12) ?_
    refine D_take 0 rfl (T_loads (ds := emc m) rfl rfl rfl rfl rfl) ?_ rfl rfl (by kernel_rfl) (by kernel_rfl)
    refine D_one 1 rfl (E_hv0 (f := 49) ⟨_, Try.func49, rfl, by kernel_rfl⟩ (fun w hS => placed_k w m _ hp) rfl rfl (fun _ => rfl)) ?_ rfl rfl (by kernel_rfl)
    rintro _ _ ⟨_, rfl, _, rfl⟩
    refine Nx_same sub_st ?_
    refine D_take 2 rfl (T_not rfl) ?_ rfl rfl (by kernel_rfl) (by kernel_rfl)
    refine D_take 3 rfl (T_decT rfl (by omega)) ?_ rfl rfl (by kernel_rfl) (by kernel_rfl)
    refine D_skip 4 rfl ?_ rfl rfl (by kernel_rfl) (by kernel_rfl)
    refine D_skip 5 rfl ?_ rfl rfl (by kernel_rfl) (by kernel_rfl)
    refine D_skip 6 rfl ?_ rfl rfl (by kernel_rfl) (by kernel_rfl)
    refine D_skip 7 rfl ?_ rfl rfl (by kernel_rfl) (by kernel_rfl)
    refine D_skip 8 rfl ?_ rfl rfl (by kernel_rfl) (by kernel_rfl)
    refine D_skip 9 rfl ?_ rfl rfl (by kernel_rfl) (by kernel_rfl)
    refine D_take 10 rfl (T_decT rfl (by omega)) ?_ rfl rfl (by kernel_rfl) (by kernel_rfl)
    refine D_take 11 rfl (T_decT rfl (by omega)) ?_ rfl rfl (by kernel_rfl) (by kernel_rfl)
    refine D_done ?_ (by kernel_rfl)
    skip
    focus (refine S_true rfl rfl ?_; refine S_region rfl rfl ?_; refine R_p rfl ?_ rfl rfl; refine R_nil ?_; refine RS_blk ?_; refine S_seq rfl ?_; refine S_seq rfl ?_; refine S_region rfl rfl ?_; refine R_p rfl ?_ rfl rfl; refine R_take (T_decT rfl (by omega)) ?_ rfl rfl; refine R_nil ?_; refine S_true rfl rfl ?_; refine S_seq rfl ?_; refine S_region rfl rfl ?_; refine R_take (T_build0 lg_built0) ?_ rfl rfl; refine R_take (T_build0 at_built0) ?_ rfl rfl; refine R_p rfl ?_ rfl rfl; (refine R_eff0 (E_storew (cs := lgc (0, 0) none 0 0) (ds := lgc (0, 0) none 0 0) rfl rfl rfl rfl (lgc_one _ _ _ _) rfl) ?_ rfl; rintro _ _ rfl); (refine R_eff0 (E_storew (cs := atc (0, 0)) (ds := atc (0, 0)) rfl rfl rfl rfl (atc_one _) rfl) ?_ rfl; rintro _ _ rfl); refine R_p rfl ?_ rfl rfl; refine R_nil ?_)
    refine hB _ _ _ _ _ rfl (.cell rfl rfl rfl inferInstance rfl (.cell rfl rfl rfl inferInstance rfl (.tmp rfl .nil))) fun w' hS => ⟨((none, 0), ⟨[], rfl, fun m hm => absurd hm (by simp)⟩), rfl, trivial, dtB_nil2 (hS.sublist (List.nil_sublist _))⟩
  focus (refine S_seq rfl ?_; refine S_region rfl rfl ?_; (refine R_eff (E_boxa (cs := lgc (i, t) A k c) rfl) ?_ rfl rfl; rintro _ _ ⟨b2, rfl, rfl⟩); (refine R_eff (E_boxa (cs := emc m) rfl) ?_ rfl rfl; rintro _ _ ⟨b3, rfl, rfl⟩); (refine R_eff (E_alloca rfl lg_zero) ?_ rfl rfl; rintro _ _ ⟨b4, rfl, rfl⟩); (refine R_eff (E_alloca rfl at_zero) ?_ rfl rfl; rintro _ _ ⟨b5, rfl, rfl⟩); refine R_p rfl ?_ rfl rfl; refine R_nil ?_; refine S_seq rfl ?_; refine S_region rfl rfl ?_; refine R_p rfl ?_ rfl rfl; refine R_nil ?_; refine S_seq rfl ?_; refine S_block rfl ?_; refine S_seq rfl ?_; refine S_region rfl rfl ?_; refine R_take (T_loads (ds := lgc (i, t) A k c) rfl rfl rfl rfl rfl) ?_ rfl rfl; ((refine R_eff (E_hv0 (f := 40) ⟨_, Try.func40, rfl, by kernel_rfl⟩ (fun w hS => right_k w (i, t) A c k Q l hk hl ((Srd.old h (fun k _ => noOwns k)).rd w hS) (by omega) _ hr0) rfl rfl (fun _ => rfl)) ?_ rfl rfl; rintro _ _ ⟨_, rfl, _, rfl⟩)); refine R_take (T_not rfl) ?_ rfl rfl; refine R_p rfl ?_ rfl rfl; refine R_nil ?_; refine S_false rfl rfl ?_; refine S_seq rfl ?_)
  by_cases hlt : m.1 < lt
  · rw [if_neg (by omega)] at hs
    injection hs with e1 e2
    injection e2 with e2 e3
    injection e3 with e3 e4
    subst e1 e2 e3 e4 hK
    refine S_draw ([pt b3 44 (emc m), pt b2 27 (lgc (i, t) A k c)]) sub_st (by kernel_rfl) rfl (by kernel_rfl) (by kernel_rfl : _ = 12) ?_
    refine D_take 0 rfl (T_loads (ds := emc m) rfl rfl rfl rfl rfl) ?_ rfl rfl (by kernel_rfl) (by kernel_rfl)
    refine D_one 1 rfl (E_hv0 (f := 49) ⟨_, Try.func49, rfl, by kernel_rfl⟩ (fun w hS => placed_k w m _ hp) rfl rfl (fun _ => rfl)) ?_ rfl rfl (by kernel_rfl)
    rintro _ _ ⟨_, rfl, _, rfl⟩
    refine Nx_same sub_st ?_
    refine D_take 2 rfl (T_not rfl) ?_ rfl rfl (by kernel_rfl) (by kernel_rfl)
    refine D_take 3 rfl (pev_ok rfl) ?_ rfl rfl (by kernel_rfl) (by kernel_rfl)
    refine D_take 4 rfl (pev_ok rfl) ?_ rfl rfl (by kernel_rfl) (by kernel_rfl)
    refine D_take 5 rfl (T_load rfl rfl rfl rfl) ?_ rfl rfl (by kernel_rfl) (by kernel_rfl)
    refine D_take 6 rfl (T_loads (ds := lgc (i, t) A k c) rfl rfl rfl rfl rfl) ?_ rfl rfl (by kernel_rfl) (by kernel_rfl)
    refine D_one 7 rfl (E_hv0 (f := 43) ⟨_, Try.func43, rfl, by kernel_rfl⟩ (fun w hS => lastI_k w (i, t) A c k Q l hk hl ((Srd.old h (fun k _ => noOwns k)).rd w hS) (by omega) hfit _ hla) rfl rfl (fun _ => rfl)) ?_ rfl rfl (by kernel_rfl)
    rintro _ _ ⟨_, rfl, _, rfl⟩
    refine Nx_same sub_st ?_
    refine D_take 8 rfl (T_fldv (xs := atc (i + k, lt)) rfl rfl rfl rfl rfl rfl) ?_ rfl rfl (by kernel_rfl) (by kernel_rfl)
    refine D_take 9 rfl (T_decT rfl (by omega)) ?_ rfl rfl (by kernel_rfl) (by kernel_rfl)
    refine D_take 10 rfl (T_decT rfl (by omega)) ?_ rfl rfl (by kernel_rfl) (by kernel_rfl)
    refine D_take 11 rfl (T_decT rfl (by omega)) ?_ rfl rfl (by kernel_rfl) (by kernel_rfl)
    refine D_done ?_ (by kernel_rfl)
    skip
    focus (refine S_true rfl rfl ?_; refine S_region rfl rfl ?_; refine R_p rfl ?_ rfl rfl; refine R_nil ?_; refine RS_blk ?_; refine S_seq rfl ?_; refine S_seq rfl ?_; refine S_region rfl rfl ?_; refine R_p rfl ?_ rfl rfl; refine R_take (T_decT rfl (by omega)) ?_ rfl rfl; refine R_nil ?_; refine S_true rfl rfl ?_; refine S_seq rfl ?_; refine S_region rfl rfl ?_; refine R_take (T_build0 lg_built0) ?_ rfl rfl; refine R_take (T_build0 at_built0) ?_ rfl rfl; refine R_p rfl ?_ rfl rfl; (refine R_eff0 (E_storew (cs := lgc (0, 0) none 0 0) (ds := lgc (0, 0) none 0 0) rfl rfl rfl rfl (lgc_one _ _ _ _) rfl) ?_ rfl; rintro _ _ rfl); (refine R_eff0 (E_storew (cs := atc (0, 0)) (ds := atc (0, 0)) rfl rfl rfl rfl (atc_one _) rfl) ?_ rfl; rintro _ _ rfl); refine R_p rfl ?_ rfl rfl; refine R_nil ?_)
    refine hB _ _ _ _ _ rfl (.cell rfl rfl rfl inferInstance rfl (.cell rfl rfl rfl inferInstance rfl (.tmp rfl .nil))) fun w' hS => ⟨((none, 0), ⟨[], rfl, fun m hm => absurd hm (by simp)⟩), rfl, trivial, dtB_nil2 (hS.sublist (List.nil_sublist _))⟩
  rw [if_pos ⟨rfl, by omega⟩] at hs
  refine S_draw ([pt b3 44 (emc m), pt b2 27 (lgc (i, t) A k c)]) sub_st (by kernel_rfl) rfl (by kernel_rfl) (by kernel_rfl : _ = 12) ?_
  refine D_take 0 rfl (T_loads (ds := emc m) rfl rfl rfl rfl rfl) ?_ rfl rfl (by kernel_rfl) (by kernel_rfl)
  refine D_one 1 rfl (E_hv0 (f := 49) ⟨_, Try.func49, rfl, by kernel_rfl⟩ (fun w hS => placed_k w m _ hp) rfl rfl (fun _ => rfl)) ?_ rfl rfl (by kernel_rfl)
  rintro _ _ ⟨_, rfl, _, rfl⟩
  refine Nx_same sub_st ?_
  refine D_take 2 rfl (T_not rfl) ?_ rfl rfl (by kernel_rfl) (by kernel_rfl)
  refine D_take 3 rfl (pev_ok rfl) ?_ rfl rfl (by kernel_rfl) (by kernel_rfl)
  refine D_take 4 rfl (pev_ok rfl) ?_ rfl rfl (by kernel_rfl) (by kernel_rfl)
  refine D_take 5 rfl (T_load rfl rfl rfl rfl) ?_ rfl rfl (by kernel_rfl) (by kernel_rfl)
  refine D_take 6 rfl (T_loads (ds := lgc (i, t) A k c) rfl rfl rfl rfl rfl) ?_ rfl rfl (by kernel_rfl) (by kernel_rfl)
  refine D_one 7 rfl (E_hv0 (f := 43) ⟨_, Try.func43, rfl, by kernel_rfl⟩ (fun w hS => lastI_k w (i, t) A c k Q l hk hl ((Srd.old h (fun k _ => noOwns k)).rd w hS) (by omega) hfit _ hla) rfl rfl (fun _ => rfl)) ?_ rfl rfl (by kernel_rfl)
  rintro _ _ ⟨_, rfl, _, rfl⟩
  refine Nx_same sub_st ?_
  refine D_take 8 rfl (T_fldv (xs := atc (i + k, lt)) rfl rfl rfl rfl rfl rfl) ?_ rfl rfl (by kernel_rfl) (by kernel_rfl)
  refine D_take 9 rfl (T_decF rfl (by omega)) ?_ rfl rfl (by kernel_rfl) (by kernel_rfl)
  refine D_take 10 rfl (pev_ok rfl) ?_ rfl rfl (by kernel_rfl) (by kernel_rfl)
  refine D_take 11 rfl (pev_ok rfl) ?_ rfl rfl (by kernel_rfl) (by kernel_rfl)
  refine D_done ?_ (by kernel_rfl)
  skip
  by_cases hfull : k = 16 ∨ i + k = 18446744073709551614
  · rw [if_pos hfull] at hs
    injection hs with e1 e2
    injection e2 with e2 e3
    injection e3 with e3 e4
    subst e1 e2 e3 e4 hK
    by_cases h16 : k = 16
    · focus (refine S_false rfl rfl ?_; refine S_seq rfl ?_; refine S_region rfl rfl ?_; refine R_p rfl ?_ rfl rfl; refine R_take (T_load rfl rfl rfl rfl) ?_ rfl rfl; refine R_p rfl ?_ rfl rfl; refine R_take (T_decT rfl (by omega)) ?_ rfl rfl; refine R_p rfl ?_ rfl rfl; refine R_skip ?_ rfl rfl; refine R_skip ?_ rfl rfl; refine R_skip ?_ rfl rfl; refine R_skip ?_ rfl rfl; refine R_p rfl ?_ rfl rfl; refine R_p rfl ?_ rfl rfl; refine R_nil ?_; refine S_true rfl rfl ?_; refine S_region rfl rfl ?_; refine R_p rfl ?_ rfl rfl; refine R_nil ?_; refine RS_blk ?_; refine S_seq rfl ?_; refine S_seq rfl ?_; refine S_region rfl rfl ?_; refine R_p rfl ?_ rfl rfl; refine R_take (T_decT rfl (by omega)) ?_ rfl rfl; refine R_nil ?_; refine S_true rfl rfl ?_; refine S_seq rfl ?_; refine S_region rfl rfl ?_; refine R_take (T_build0 lg_built0) ?_ rfl rfl; refine R_take (T_build0 at_built0) ?_ rfl rfl; refine R_p rfl ?_ rfl rfl; (refine R_eff0 (E_storew (cs := lgc (0, 0) none 0 0) (ds := lgc (0, 0) none 0 0) rfl rfl rfl rfl (lgc_one _ _ _ _) rfl) ?_ rfl; rintro _ _ rfl); (refine R_eff0 (E_storew (cs := atc (0, 0)) (ds := atc (0, 0)) rfl rfl rfl rfl (atc_one _) rfl) ?_ rfl; rintro _ _ rfl); refine R_p rfl ?_ rfl rfl; refine R_nil ?_)
      refine hB _ _ _ _ _ rfl (.cell rfl rfl rfl inferInstance rfl (.cell rfl rfl rfl inferInstance rfl (.tmp rfl .nil))) fun w' hS => ⟨((none, 0), ⟨[], rfl, fun m hm => absurd hm (by simp)⟩), rfl, trivial, dtB_nil2 (hS.sublist (List.nil_sublist _))⟩
    · focus (refine S_false rfl rfl ?_; refine S_seq rfl ?_; refine S_region rfl rfl ?_; refine R_p rfl ?_ rfl rfl; refine R_take (T_load rfl rfl rfl rfl) ?_ rfl rfl; refine R_p rfl ?_ rfl rfl; refine R_take (T_decF rfl (by omega)) ?_ rfl rfl; refine R_p rfl ?_ rfl rfl; refine R_take (T_loads (ds := lgc (i, t) A k c) rfl rfl rfl rfl rfl) ?_ rfl rfl; ((refine R_eff (E_hv0 (f := 43) ⟨_, Try.func43, rfl, by kernel_rfl⟩ (fun w hS => lastI_k w (i, t) A c k Q l hk hl ((Srd.old h (fun k _ => noOwns k)).rd w hS) (by omega) hfit _ hla) rfl rfl (fun _ => rfl)) ?_ rfl rfl; rintro _ _ ⟨_, rfl, _, rfl⟩)); refine R_take (T_fldv (xs := atc (i + k, lt)) rfl rfl rfl rfl rfl rfl) ?_ rfl rfl; refine R_take (T_decT rfl (by omega)) ?_ rfl rfl; refine R_take (T_decT rfl (by omega)) ?_ rfl rfl; refine R_take (T_decT rfl (by omega)) ?_ rfl rfl; refine R_nil ?_; refine S_true rfl rfl ?_; refine S_region rfl rfl ?_; refine R_p rfl ?_ rfl rfl; refine R_nil ?_; refine RS_blk ?_; refine S_seq rfl ?_; refine S_seq rfl ?_; refine S_region rfl rfl ?_; refine R_p rfl ?_ rfl rfl; refine R_take (T_decT rfl (by omega)) ?_ rfl rfl; refine R_nil ?_; refine S_true rfl rfl ?_; refine S_seq rfl ?_; refine S_region rfl rfl ?_; refine R_take (T_build0 lg_built0) ?_ rfl rfl; refine R_take (T_build0 at_built0) ?_ rfl rfl; refine R_p rfl ?_ rfl rfl; (refine R_eff0 (E_storew (cs := lgc (0, 0) none 0 0) (ds := lgc (0, 0) none 0 0) rfl rfl rfl rfl (lgc_one _ _ _ _) rfl) ?_ rfl; rintro _ _ rfl); (refine R_eff0 (E_storew (cs := atc (0, 0)) (ds := atc (0, 0)) rfl rfl rfl rfl (atc_one _) rfl) ?_ rfl; rintro _ _ rfl); refine R_p rfl ?_ rfl rfl; refine R_nil ?_)
      refine hB _ _ _ _ _ rfl (.cell rfl rfl rfl inferInstance rfl (.cell rfl rfl rfl inferInstance rfl (.tmp rfl .nil))) fun w' hS => ⟨((none, 0), ⟨[], rfl, fun m hm => absurd hm (by simp)⟩), rfl, trivial, dtB_nil2 (hS.sublist (List.nil_sublist _))⟩
  rw [if_neg hfull, hla8] at hs
  injection hs with e1 e2
  injection e2 with e2 e3
  injection e3 with e3 e4
  subst e1 e2 e3 e4
  have hKK : K = k + 1 := by rw [← hK, List.length_append, hll]; rfl
  subst hKK
  focus (refine S_false rfl rfl ?_; refine S_seq rfl ?_; refine S_region rfl rfl ?_; refine R_p rfl ?_ rfl rfl; refine R_take (T_load rfl rfl rfl rfl) ?_ rfl rfl; refine R_p rfl ?_ rfl rfl; refine R_take (T_decF rfl (by omega)) ?_ rfl rfl; refine R_p rfl ?_ rfl rfl; refine R_take (T_loads (ds := lgc (i, t) A k c) rfl rfl rfl rfl rfl) ?_ rfl rfl; ((refine R_eff (E_hv0 (f := 43) ⟨_, Try.func43, rfl, by kernel_rfl⟩ (fun w hS => lastI_k w (i, t) A c k Q l hk hl ((Srd.old h (fun k _ => noOwns k)).rd w hS) (by omega) hfit _ hla) rfl rfl (fun _ => rfl)) ?_ rfl rfl; rintro _ _ ⟨_, rfl, _, rfl⟩)); refine R_take (T_fldv (xs := atc (i + k, lt)) rfl rfl rfl rfl rfl rfl) ?_ rfl rfl; refine R_take (T_decF rfl (by omega)) ?_ rfl rfl; refine R_p rfl ?_ rfl rfl; refine R_p rfl ?_ rfl rfl; refine R_nil ?_; refine S_false rfl rfl ?_; refine S_skip rfl ?_; refine RS_blk ?_; refine S_seq rfl ?_; refine S_seq rfl ?_; refine S_region rfl rfl ?_; refine R_p rfl ?_ rfl rfl; refine R_take (T_decF rfl (by omega)) ?_ rfl rfl; refine R_nil ?_; refine S_false rfl rfl ?_; refine S_skip rfl ?_; refine S_seq rfl ?_)
  have hl1 : [m].map emv = [emv m] := rfl
  have hk1 : ∀ m' ∈ [m], m'.2.2.2.2.length ≤ 100000 := fun m' h' => by rw [List.mem_singleton.1 h']; exact hmk
  have hc1 : cellsL emc [m] = emc m := cellsL_one m
  have hd1 : RDt w All ([m].map emd) := fun d hd' => by
    obtain ⟨m', h', rfl⟩ := List.mem_map.1 hd'
    rw [List.mem_singleton.1 h']
    exact hm
  refine S_draw ([pt b3 44 (emc m), pt b2 27 (lgc (i, t) A k c)]) sub_st (by kernel_rfl) rfl (by kernel_rfl) (by kernel_rfl : _ = 12) ?_
  refine D_take 0 rfl (pev_ok rfl) ?_ rfl rfl (by kernel_rfl) (by kernel_rfl)
  refine D_take 1 rfl (T_loads (ds := atc (i, t)) rfl rfl rfl rfl rfl) ?_ rfl rfl (by kernel_rfl) (by kernel_rfl)
  refine D_take 2 rfl (pev_ok rfl) ?_ rfl rfl (by kernel_rfl) (by kernel_rfl)
  refine D_take 3 rfl (T_load rfl rfl rfl rfl) ?_ rfl rfl (by kernel_rfl) (by kernel_rfl)
  refine D_take 5 rfl (T_loads (ds := emc m) rfl rfl rfl rfl rfl) ?_ rfl rfl (by kernel_rfl) (by kernel_rfl)
  refine D_node #[true, true, true, true, true, true, true, true, true, true, true, false] (fun x : Option Addr × Nat × Sh l × Nat × Option Addr × Nat × Sh [emv m] × Option Addr × Nat × Nat => [(50, .agg (lgc (i, t) x.2.2.2.2.2.2.2.1 (k + 1) x.2.2.2.2.2.2.2.2.1).toArray), (8, .pointer (some ⟨x.2.2.2.2.2.2.2.2.2, 0, none⟩)), (49, .slice x.2.2.2.2.2.2.2.1 (k + 1) x.2.2.2.2.2.2.2.2.1), (48, .slice x.2.2.2.2.1 1 x.2.2.2.2.2.1), (47, .slice (some ⟨x.2.2.2.1, 0, none⟩) 1 1), (45, .slice x.1 k x.2.1), (46, .agg (emc m).toArray), (44, .slice A k c), (42, .agg (atc (i, t)).toArray), (4, .pointer (some ⟨b4, 0, none⟩)), (5, .pointer (some ⟨b5, 0, none⟩))]) (fun x : Option Addr × Nat × Sh l × Nat × Option Addr × Nat × Sh [emv m] × Option Addr × Nat × Nat => [pt x.2.2.2.2.2.2.2.2.2 27 (lgc (0, 0) none 0 0), row 44 3 x.2.2.2.2.2.2.2.1 (k + 1) x.2.2.2.2.2.2.2.2.1 (cellsL emc x.2.2.1.1 ++ cellsL emc x.2.2.2.2.2.2.1.1), dtB 5 (x.2.2.1.1.map emd), row 44 3 x.2.2.2.2.1 1 x.2.2.2.2.2.1 (cellsL emc x.2.2.2.2.2.2.1.1), dtB 5 (x.2.2.2.2.2.2.1.1.map emd), pt x.2.2.2.1 44 (emc m), pt b4 27 (lgc (0, 0) none 0 0), pt b5 24 (atc (0, 0)), pt b3 44 (emc m), pt b2 27 (lgc (i, t) A k c)]) (fun nd0 => ?_) (fun x => ?_)
  refine D_nodeR #[true, true, true, true, true, true, true, true, true, true, false, false] (fun x : Option Addr × Nat × Sh l × Nat × Option Addr × Nat × Sh [emv m] × Option Addr × Nat => [(50, .agg (lgc (i, t) x.2.2.2.2.2.2.2.1 (k + 1) x.2.2.2.2.2.2.2.2).toArray), (49, .slice x.2.2.2.2.2.2.2.1 (k + 1) x.2.2.2.2.2.2.2.2), (48, .slice x.2.2.2.2.1 1 x.2.2.2.2.2.1), (47, .slice (some ⟨x.2.2.2.1, 0, none⟩) 1 1), (45, .slice x.1 k x.2.1), (46, .agg (emc m).toArray), (44, .slice A k c), (42, .agg (atc (i, t)).toArray), (4, .pointer (some ⟨b4, 0, none⟩)), (5, .pointer (some ⟨b5, 0, none⟩))]) (fun x : Option Addr × Nat × Sh l × Nat × Option Addr × Nat × Sh [emv m] × Option Addr × Nat => [row 44 3 x.2.2.2.2.2.2.2.1 (k + 1) x.2.2.2.2.2.2.2.2 (cellsL emc x.2.2.1.1 ++ cellsL emc x.2.2.2.2.2.2.1.1), dtB 5 (x.2.2.1.1.map emd), row 44 3 x.2.2.2.2.1 1 x.2.2.2.2.2.1 (cellsL emc x.2.2.2.2.2.2.1.1), dtB 5 (x.2.2.2.2.2.2.1.1.map emd), pt x.2.2.2.1 44 (emc m), pt b4 27 (lgc (0, 0) none 0 0), pt b5 24 (atc (0, 0)), pt b3 44 (emc m), pt b2 27 (lgc (i, t) A k c)]) (fun x => ?_) (fun nd1 => ?_)
  · skip
    obtain ⟨A5, c5, P5, vb, A7, c7, P7, A8, c8⟩ := x
    try dsimp only
    refine D_one 10 rfl (E_alloca rfl lg_zero) ?_ rfl rfl (by kernel_rfl)
    rintro _ _ ⟨b8, rfl, rfl⟩
    refine Nx_same sub_st ?_
    have h := nd0 (A5, c5, P5, vb, A7, c7, P7, A8, c8, b8)
    try dsimp only at h
    exact D_at h (by repeat first | exact Sub.nil | refine Sub.cons rfl ?_) sub_st (by kernel_rfl)
  refine D_nodeR #[true, true, true, true, true, true, true, true, false, false, true, false] (fun x : Option Addr × Nat × Sh l × Nat × Option Addr × Nat × Sh [emv m] × Nat => [(8, .pointer (some ⟨x.2.2.2.2.2.2.2, 0, none⟩)), (48, .slice x.2.2.2.2.1 1 x.2.2.2.2.2.1), (47, .slice (some ⟨x.2.2.2.1, 0, none⟩) 1 1), (45, .slice x.1 k x.2.1), (46, .agg (emc m).toArray), (44, .slice A k c), (42, .agg (atc (i, t)).toArray), (4, .pointer (some ⟨b4, 0, none⟩)), (5, .pointer (some ⟨b5, 0, none⟩))]) (fun x : Option Addr × Nat × Sh l × Nat × Option Addr × Nat × Sh [emv m] × Nat => [pt x.2.2.2.2.2.2.2 27 (lgc (0, 0) none 0 0), row 44 3 x.2.2.2.2.1 1 x.2.2.2.2.2.1 (cellsL emc x.2.2.2.2.2.2.1.1), dtB 5 (x.2.2.2.2.2.2.1.1.map emd), pt x.2.2.2.1 44 (emc m), row 44 3 x.1 k x.2.1 (cellsL emc x.2.2.1.1), dtB 5 (x.2.2.1.1.map emd), pt b4 27 (lgc (0, 0) none 0 0), pt b5 24 (atc (0, 0)), pt b3 44 (emc m), pt b2 27 (lgc (i, t) A k c)]) (fun x => ?_) (fun nd2 => ?_)
  · skip
    obtain ⟨A5, c5, P5, vb, A7, c7, P7, b8⟩ := x
    try dsimp only
    refine D_one 8 rfl (E_appS (sz := 3) (m := k) (c := c5) (A := A5) rfl rfl rfl rfl rfl rfl rfl (by decide) (Srd.row (A := A7) (n := 1) (c := c7)) (em_ones P7.1) (by show (k + 1) * 40 ≤ _; omega) (by unfold maxLen; omega)) ?_ rfl rfl (by kernel_rfl)
    rintro _ _ ⟨A8, c8, rfl, rfl⟩
    refine Nx_same sub_st ?_
    refine D_take 9 rfl (T_build2 rfl rfl (lg_built2 (i, t) _ _ _)) ?_ rfl rfl (by kernel_rfl) (by kernel_rfl)
    have h := nd0 (A5, c5, P5, vb, A7, c7, P7, A8, c8, b8)
    try dsimp only at h
    exact D_at h (by repeat first | exact Sub.nil | refine Sub.cons rfl ?_) sub_st (by kernel_rfl)
  refine D_nodeR #[true, true, true, true, true, true, true, true, false, false, false, false] (fun x : Option Addr × Nat × Sh l × Nat × Option Addr × Nat × Sh [emv m] => [(48, .slice x.2.2.2.2.1 1 x.2.2.2.2.2.1), (47, .slice (some ⟨x.2.2.2.1, 0, none⟩) 1 1), (45, .slice x.1 k x.2.1), (46, .agg (emc m).toArray), (44, .slice A k c), (42, .agg (atc (i, t)).toArray), (4, .pointer (some ⟨b4, 0, none⟩)), (5, .pointer (some ⟨b5, 0, none⟩))]) (fun x : Option Addr × Nat × Sh l × Nat × Option Addr × Nat × Sh [emv m] => [row 44 3 x.2.2.2.2.1 1 x.2.2.2.2.2.1 (cellsL emc x.2.2.2.2.2.2.1), dtB 5 (x.2.2.2.2.2.2.1.map emd), pt x.2.2.2.1 44 (emc m), row 44 3 x.1 k x.2.1 (cellsL emc x.2.2.1.1), dtB 5 (x.2.2.1.1.map emd), pt b4 27 (lgc (0, 0) none 0 0), pt b5 24 (atc (0, 0)), pt b3 44 (emc m), pt b2 27 (lgc (i, t) A k c)]) (fun x => ?_) (fun nd3 => ?_)
  · skip
    obtain ⟨A5, c5, P5, vb, A7, c7, P7⟩ := x
    try dsimp only
    refine D_two 8 10 (by decide) rfl rfl (E_appS (sz := 3) (m := k) (c := c5) (A := A5) rfl rfl rfl rfl rfl rfl rfl (by decide) (Srd.row (A := A7) (n := 1) (c := c7)) (em_ones P7.1) (by show (k + 1) * 40 ≤ _; omega) (by unfold maxLen; omega)) (E_alloca rfl lg_zero) ?_ ?_ rfl rfl rfl rfl (by kernel_rfl)
    · rintro _ _ ⟨A8, c8, rfl, rfl⟩
      refine Nx_same sub_st ?_
      refine D_take 9 rfl (T_build2 rfl rfl (lg_built2 (i, t) _ _ _)) ?_ rfl rfl (by kernel_rfl) (by kernel_rfl)
      have h := nd1 (A5, c5, P5, vb, A7, c7, P7, A8, c8)
      try dsimp only at h
      exact D_at h (by repeat first | exact Sub.nil | refine Sub.cons rfl ?_) sub_st (by kernel_rfl)
    · rintro _ _ ⟨b8, rfl, rfl⟩
      refine Nx_same sub_st ?_
      have h := nd2 (A5, c5, P5, vb, A7, c7, P7, b8)
      try dsimp only at h
      exact D_at h (by repeat first | exact Sub.nil | refine Sub.cons rfl ?_) sub_st (by kernel_rfl)
  refine D_nodeR #[true, true, true, true, true, true, true, false, false, false, true, false] (fun x : Option Addr × Nat × Sh l × Nat × Nat => [(8, .pointer (some ⟨x.2.2.2.2, 0, none⟩)), (47, .slice (some ⟨x.2.2.2.1, 0, none⟩) 1 1), (45, .slice x.1 k x.2.1), (46, .agg (emc m).toArray), (44, .slice A k c), (42, .agg (atc (i, t)).toArray), (4, .pointer (some ⟨b4, 0, none⟩)), (5, .pointer (some ⟨b5, 0, none⟩))]) (fun x : Option Addr × Nat × Sh l × Nat × Nat => [pt x.2.2.2.2 27 (lgc (0, 0) none 0 0), pt x.2.2.2.1 44 (emc m), row 44 3 x.1 k x.2.1 (cellsL emc x.2.2.1.1), dtB 5 (x.2.2.1.1.map emd), pt b4 27 (lgc (0, 0) none 0 0), pt b5 24 (atc (0, 0)), pt b3 44 (emc m), pt b2 27 (lgc (i, t) A k c)]) (fun x => ?_) (fun nd4 => ?_)
  · skip
    obtain ⟨A5, c5, P5, vb, b8⟩ := x
    try dsimp only
    refine D_one 7 rfl (E_hvG (f := 44) ⟨_, Try.func44, rfl, by kernel_rfl⟩ (fun w hS => copied_S w (some ⟨vb, 0, none⟩) 1 1 [m] [emv m] rfl hl1 (by rw [hc1]; exact (Srd.pt (n := 1) (g := vb) (ds := emc m) rfl (fun j u hj => by rw [Nat.zero_add]; exact hj)).rd w hS) ((SDt.old hd1 (fun k _ => noOwns k)).rd w hS) (by omega) hk1) rfl rfl) ?_ rfl rfl (by kernel_rfl)
    rintro _ _ ⟨⟨⟨A7, c7⟩, P7⟩, rfl, _, rfl⟩; dsimp only [List.cons_append, List.nil_append]
    refine Nx_same sub_st ?_
    have h := nd2 (A5, c5, P5, vb, A7, c7, P7, b8)
    try dsimp only at h
    exact D_at h (by repeat first | exact Sub.nil | refine Sub.cons rfl ?_) sub_st (by kernel_rfl)
  refine D_nodeR #[true, true, true, true, true, true, true, false, false, false, false, false] (fun x : Option Addr × Nat × Sh l × Nat => [(47, .slice (some ⟨x.2.2.2, 0, none⟩) 1 1), (45, .slice x.1 k x.2.1), (46, .agg (emc m).toArray), (44, .slice A k c), (42, .agg (atc (i, t)).toArray), (4, .pointer (some ⟨b4, 0, none⟩)), (5, .pointer (some ⟨b5, 0, none⟩))]) (fun x : Option Addr × Nat × Sh l × Nat => [pt x.2.2.2 44 (emc m), row 44 3 x.1 k x.2.1 (cellsL emc x.2.2.1.1), dtB 5 (x.2.2.1.1.map emd), pt b4 27 (lgc (0, 0) none 0 0), pt b5 24 (atc (0, 0)), pt b3 44 (emc m), pt b2 27 (lgc (i, t) A k c)]) (fun x => ?_) (fun nd5 => ?_)
  · skip
    obtain ⟨A5, c5, P5, vb⟩ := x
    try dsimp only
    refine D_two 7 10 (by decide) rfl rfl (E_hvG (f := 44) ⟨_, Try.func44, rfl, by kernel_rfl⟩ (fun w hS => copied_S w (some ⟨vb, 0, none⟩) 1 1 [m] [emv m] rfl hl1 (by rw [hc1]; exact (Srd.pt (n := 1) (g := vb) (ds := emc m) rfl (fun j u hj => by rw [Nat.zero_add]; exact hj)).rd w hS) ((SDt.old hd1 (fun k _ => noOwns k)).rd w hS) (by omega) hk1) rfl rfl) (E_alloca rfl lg_zero) ?_ ?_ rfl rfl rfl rfl (by kernel_rfl)
    · rintro _ _ ⟨⟨⟨A7, c7⟩, P7⟩, rfl, _, rfl⟩; dsimp only [List.cons_append, List.nil_append]
      refine Nx_same sub_st ?_
      have h := nd3 (A5, c5, P5, vb, A7, c7, P7)
      try dsimp only at h
      exact D_at h (by repeat first | exact Sub.nil | refine Sub.cons rfl ?_) sub_st (by kernel_rfl)
    · rintro _ _ ⟨b8, rfl, rfl⟩
      refine Nx_same sub_st ?_
      have h := nd4 (A5, c5, P5, vb, b8)
      try dsimp only at h
      exact D_at h (by repeat first | exact Sub.nil | refine Sub.cons rfl ?_) sub_st (by kernel_rfl)
  refine D_nodeR #[true, true, true, true, true, true, false, false, false, false, true, false] (fun x : Option Addr × Nat × Sh l × Nat => [(8, .pointer (some ⟨x.2.2.2, 0, none⟩)), (45, .slice x.1 k x.2.1), (46, .agg (emc m).toArray), (44, .slice A k c), (42, .agg (atc (i, t)).toArray), (4, .pointer (some ⟨b4, 0, none⟩)), (5, .pointer (some ⟨b5, 0, none⟩))]) (fun x : Option Addr × Nat × Sh l × Nat => [pt x.2.2.2 27 (lgc (0, 0) none 0 0), row 44 3 x.1 k x.2.1 (cellsL emc x.2.2.1.1), dtB 5 (x.2.2.1.1.map emd), pt b4 27 (lgc (0, 0) none 0 0), pt b5 24 (atc (0, 0)), pt b3 44 (emc m), pt b2 27 (lgc (i, t) A k c)]) (fun x => ?_) (fun nd6 => ?_)
  · skip
    obtain ⟨A5, c5, P5, b8⟩ := x
    try dsimp only
    refine D_one 6 rfl (E_litS (vs := [.agg (emc m).toArray]) (size := 3) (ds := emc m) rfl rfl rfl rfl rfl rfl (by simp [vcells, emc_len]) (by simp [vcells]) (by omega)) ?_ rfl rfl (by kernel_rfl)
    rintro _ _ ⟨vb, rfl, rfl⟩
    refine Nx_same sub_st ?_
    have h := nd4 (A5, c5, P5, vb, b8)
    try dsimp only at h
    exact D_at h (by repeat first | exact Sub.nil | refine Sub.cons rfl ?_) sub_st (by kernel_rfl)
  refine D_nodeR #[true, true, true, true, false, true, true, false, false, false, true, false] (fun x : Nat × Nat => [(8, .pointer (some ⟨x.2, 0, none⟩)), (47, .slice (some ⟨x.1, 0, none⟩) 1 1), (46, .agg (emc m).toArray), (44, .slice A k c), (42, .agg (atc (i, t)).toArray), (4, .pointer (some ⟨b4, 0, none⟩)), (5, .pointer (some ⟨b5, 0, none⟩))]) (fun x : Nat × Nat => [pt x.2 27 (lgc (0, 0) none 0 0), pt x.1 44 (emc m), pt b4 27 (lgc (0, 0) none 0 0), pt b5 24 (atc (0, 0)), pt b3 44 (emc m), pt b2 27 (lgc (i, t) A k c)]) (fun x => ?_) (fun nd7 => ?_)
  · skip
    obtain ⟨vb, b8⟩ := x
    try dsimp only
    refine D_one 4 rfl (E_hvG (f := 44) ⟨_, Try.func44, rfl, by kernel_rfl⟩ (fun w hS => copied_S w A c k Q l hk hl ((Srd.old h (fun k _ => noOwns k)).rd w hS) ((SDt.old hd (fun k _ => noOwns k)).rd w hS) (by omega) hkk) rfl rfl) ?_ rfl rfl (by kernel_rfl)
    rintro _ _ ⟨⟨⟨A5, c5⟩, P5⟩, rfl, _, rfl⟩; dsimp only [List.cons_append, List.nil_append]
    refine Nx_same sub_st ?_
    have h := nd4 (A5, c5, P5, vb, b8)
    try dsimp only at h
    exact D_at h (by repeat first | exact Sub.nil | refine Sub.cons rfl ?_) sub_st (by kernel_rfl)
  refine D_nodeR #[true, true, true, true, true, true, false, false, false, false, false, false] (fun x : Option Addr × Nat × Sh l => [(45, .slice x.1 k x.2.1), (46, .agg (emc m).toArray), (44, .slice A k c), (42, .agg (atc (i, t)).toArray), (4, .pointer (some ⟨b4, 0, none⟩)), (5, .pointer (some ⟨b5, 0, none⟩))]) (fun x : Option Addr × Nat × Sh l => [row 44 3 x.1 k x.2.1 (cellsL emc x.2.2.1), dtB 5 (x.2.2.1.map emd), pt b4 27 (lgc (0, 0) none 0 0), pt b5 24 (atc (0, 0)), pt b3 44 (emc m), pt b2 27 (lgc (i, t) A k c)]) (fun x => ?_) (fun nd8 => ?_)
  · skip
    obtain ⟨A5, c5, P5⟩ := x
    try dsimp only
    refine D_two 6 10 (by decide) rfl rfl (E_litS (vs := [.agg (emc m).toArray]) (size := 3) (ds := emc m) rfl rfl rfl rfl rfl rfl (by simp [vcells, emc_len]) (by simp [vcells]) (by omega)) (E_alloca rfl lg_zero) ?_ ?_ rfl rfl rfl rfl (by kernel_rfl)
    · rintro _ _ ⟨vb, rfl, rfl⟩
      refine Nx_same sub_st ?_
      have h := nd5 (A5, c5, P5, vb)
      try dsimp only at h
      exact D_at h (by repeat first | exact Sub.nil | refine Sub.cons rfl ?_) sub_st (by kernel_rfl)
    · rintro _ _ ⟨b8, rfl, rfl⟩
      refine Nx_same sub_st ?_
      have h := nd6 (A5, c5, P5, b8)
      try dsimp only at h
      exact D_at h (by repeat first | exact Sub.nil | refine Sub.cons rfl ?_) sub_st (by kernel_rfl)
  refine D_nodeR #[true, true, true, true, false, true, true, false, false, false, false, false] (fun x : Nat => [(47, .slice (some ⟨x, 0, none⟩) 1 1), (46, .agg (emc m).toArray), (44, .slice A k c), (42, .agg (atc (i, t)).toArray), (4, .pointer (some ⟨b4, 0, none⟩)), (5, .pointer (some ⟨b5, 0, none⟩))]) (fun x : Nat => [pt x 44 (emc m), pt b4 27 (lgc (0, 0) none 0 0), pt b5 24 (atc (0, 0)), pt b3 44 (emc m), pt b2 27 (lgc (i, t) A k c)]) (fun x => ?_) (fun nd9 => ?_)
  · skip
    revert x; intro vb
    try dsimp only
    refine D_two 4 10 (by decide) rfl rfl (E_hvG (f := 44) ⟨_, Try.func44, rfl, by kernel_rfl⟩ (fun w hS => copied_S w A c k Q l hk hl ((Srd.old h (fun k _ => noOwns k)).rd w hS) ((SDt.old hd (fun k _ => noOwns k)).rd w hS) (by omega) hkk) rfl rfl) (E_alloca rfl lg_zero) ?_ ?_ rfl rfl rfl rfl (by kernel_rfl)
    · rintro _ _ ⟨⟨⟨A5, c5⟩, P5⟩, rfl, _, rfl⟩; dsimp only [List.cons_append, List.nil_append]
      refine Nx_same sub_st ?_
      have h := nd5 (A5, c5, P5, vb)
      try dsimp only at h
      exact D_at h (by repeat first | exact Sub.nil | refine Sub.cons rfl ?_) sub_st (by kernel_rfl)
    · rintro _ _ ⟨b8, rfl, rfl⟩
      refine Nx_same sub_st ?_
      have h := nd7 (vb, b8)
      try dsimp only at h
      exact D_at h (by repeat first | exact Sub.nil | refine Sub.cons rfl ?_) sub_st (by kernel_rfl)
  refine D_nodeR #[true, true, true, true, false, true, false, false, false, false, true, false] (fun x : Nat => [(8, .pointer (some ⟨x, 0, none⟩)), (46, .agg (emc m).toArray), (44, .slice A k c), (42, .agg (atc (i, t)).toArray), (4, .pointer (some ⟨b4, 0, none⟩)), (5, .pointer (some ⟨b5, 0, none⟩))]) (fun x : Nat => [pt x 27 (lgc (0, 0) none 0 0), pt b4 27 (lgc (0, 0) none 0 0), pt b5 24 (atc (0, 0)), pt b3 44 (emc m), pt b2 27 (lgc (i, t) A k c)]) (fun x => ?_) (fun nd10 => ?_)
  · skip
    revert x; intro b8
    try dsimp only
    refine D_two 4 6 (by decide) rfl rfl (E_hvG (f := 44) ⟨_, Try.func44, rfl, by kernel_rfl⟩ (fun w hS => copied_S w A c k Q l hk hl ((Srd.old h (fun k _ => noOwns k)).rd w hS) ((SDt.old hd (fun k _ => noOwns k)).rd w hS) (by omega) hkk) rfl rfl) (E_litS (vs := [.agg (emc m).toArray]) (size := 3) (ds := emc m) rfl rfl rfl rfl rfl rfl (by simp [vcells, emc_len]) (by simp [vcells]) (by omega)) ?_ ?_ rfl rfl rfl rfl (by kernel_rfl)
    · rintro _ _ ⟨⟨⟨A5, c5⟩, P5⟩, rfl, _, rfl⟩; dsimp only [List.cons_append, List.nil_append]
      refine Nx_same sub_st ?_
      have h := nd6 (A5, c5, P5, b8)
      try dsimp only at h
      exact D_at h (by repeat first | exact Sub.nil | refine Sub.cons rfl ?_) sub_st (by kernel_rfl)
    · rintro _ _ ⟨vb, rfl, rfl⟩
      refine Nx_same sub_st ?_
      have h := nd7 (vb, b8)
      try dsimp only at h
      exact D_at h (by repeat first | exact Sub.nil | refine Sub.cons rfl ?_) sub_st (by kernel_rfl)
  refine D_nodeR #[true, true, true, true, false, true, false, false, false, false, false, false] (fun _ : Unit => [(46, .agg (emc m).toArray), (44, .slice A k c), (42, .agg (atc (i, t)).toArray), (4, .pointer (some ⟨b4, 0, none⟩)), (5, .pointer (some ⟨b5, 0, none⟩))]) (fun _ : Unit => [pt b4 27 (lgc (0, 0) none 0 0), pt b5 24 (atc (0, 0)), pt b3 44 (emc m), pt b2 27 (lgc (i, t) A k c)]) (fun x => ?_) (fun nd11 => ?_)
  · skip
    obtain ⟨⟩ := x
    try dsimp only
    refine D_three 4 6 10 rfl rfl rfl (E_hvG (f := 44) ⟨_, Try.func44, rfl, by kernel_rfl⟩ (fun w hS => copied_S w A c k Q l hk hl ((Srd.old h (fun k _ => noOwns k)).rd w hS) ((SDt.old hd (fun k _ => noOwns k)).rd w hS) (by omega) hkk) rfl rfl) (E_litS (vs := [.agg (emc m).toArray]) (size := 3) (ds := emc m) rfl rfl rfl rfl rfl rfl (by simp [vcells, emc_len]) (by simp [vcells]) (by omega)) (E_alloca rfl lg_zero) ?_ ?_ ?_ rfl rfl rfl rfl rfl rfl (by kernel_rfl)
    · rintro _ _ ⟨⟨⟨A5, c5⟩, P5⟩, rfl, _, rfl⟩; dsimp only [List.cons_append, List.nil_append]
      refine Nx_same sub_st ?_
      have h := nd8 (A5, c5, P5)
      try dsimp only at h
      exact D_at h (by repeat first | exact Sub.nil | refine Sub.cons rfl ?_) sub_st (by kernel_rfl)
    · rintro _ _ ⟨vb, rfl, rfl⟩
      refine Nx_same sub_st ?_
      have h := nd9 (vb)
      try dsimp only at h
      exact D_at h (by repeat first | exact Sub.nil | refine Sub.cons rfl ?_) sub_st (by kernel_rfl)
    · rintro _ _ ⟨b8, rfl, rfl⟩
      refine Nx_same sub_st ?_
      have h := nd10 (b8)
      try dsimp only at h
      exact D_at h (by repeat first | exact Sub.nil | refine Sub.cons rfl ?_) sub_st (by kernel_rfl)
  have h := nd11 ()
  try dsimp only at h
  exact D_at h (by repeat first | exact Sub.nil | refine Sub.cons rfl ?_) sub_st (by kernel_rfl)
  obtain ⟨A5, c5, P5, vb, A7, c7, P7, A8, c8, b8⟩ := x
  try dsimp only
  refine D_one 11 rfl (E_storew (cs := lgc (0, 0) none 0 0) (ds := lgc (i, t) A8 (k + 1) c8) rfl rfl rfl rfl (lgc_one _ _ _ _) rfl) ?_ rfl rfl (by kernel_rfl)
  rintro _ _ rfl
  refine Nx_same sub_st ?_
  refine D_done ?_ (by kernel_rfl)
  skip
  have hl5 : P5.1.length = k := (em_len P5.2.1).trans hll
  have hl7 : P7.1.length = 1 := (em_len P7.2.1).trans rfl
  focus (refine S_seq rfl ?_)
  refine S_draw ([pt b8 27 (lgc (i, t) A8 (k + 1) c8)]) sub_st (by kernel_rfl) rfl (by kernel_rfl) (by kernel_rfl : _ = 6) ?_
  refine D_take 0 rfl (T_loads (ds := lgc (i, t) A8 (k + 1) c8) rfl rfl rfl rfl rfl) ?_ rfl rfl (by kernel_rfl) (by kernel_rfl)
  refine D_take 1 rfl (T_loads (ds := lgc (i, t) A8 (k + 1) c8) rfl rfl rfl rfl rfl) ?_ rfl rfl (by kernel_rfl) (by kernel_rfl)
  refine D_one 2 rfl (E_hv0 (f := 43) ⟨_, Try.func43, rfl, by kernel_rfl⟩ (fun w hS => lastI_k w (i, t) A8 c8 (k + 1) (P5.1 ++ P7.1) (l ++ [emv m]) (by rw [List.length_append, hl5, hl7]) (by rw [List.map_append, P5.2.1, P7.2.1]) (by rw [cellsL_app]; exact ((Srd.row (A := A8) (n := (k + 1)) (c := c8)).rd w hS)) (by omega) (by show i + (k + 1) ≤ _; omega) _ hla8) rfl rfl (fun _ => rfl)) ?_ rfl rfl (by kernel_rfl)
  rintro _ _ ⟨_, rfl, _, rfl⟩
  refine Nx_same sub_st ?_
  refine D_one 3 rfl (E_storew (cs := lgc (0, 0) none 0 0) (ds := lgc (i, t) A8 (k + 1) c8) rfl rfl rfl rfl (lgc_one _ _ _ _) rfl) ?_ rfl rfl (by kernel_rfl)
  rintro _ _ rfl
  refine Nx_same sub_st ?_
  refine D_one 4 rfl (E_storew (cs := atc (0, 0)) (ds := atc (i + (k + 1), m.1)) rfl rfl rfl rfl (atc_one _) rfl) ?_ rfl rfl (by kernel_rfl)
  rintro _ _ rfl
  refine Nx_same sub_st ?_
  refine D_take 5 rfl (pev_ok rfl) ?_ rfl rfl (by kernel_rfl) (by kernel_rfl)
  refine D_done ?_ (by kernel_rfl)
  skip
  skip
  refine hB _ _ _ _ _ rfl (.cell rfl rfl rfl inferInstance rfl (.cell rfl rfl rfl inferInstance rfl (.tmp rfl .nil))) fun w' hS => ⟨((A8, c8), ⟨P5.1 ++ P7.1, by rw [List.map_append, P5.2.1, P7.2.1], fun m hm => (List.mem_append.1 hm).elim (P5.2.2 m) (P7.2.2 m)⟩), rfl, trivial, ?_⟩
  dsimp only
  rw [cellsL_app, List.map_append]
  have h9 := sub_st (H' := [dtB 5 (P5.1.map emd), dtB 5 (P7.1.map emd), row 44 3 A8 (k + 1) c8 (cellsL emc P5.1 ++ cellsL emc P7.1)]) w' hS
  have h10 := dtB_app h9
  exact sub_st w' h10
set_option maxRecDepth 100000 in
set_option maxHeartbeats 4000000 in
theorem apD_any (w : World) (a : At) (A : Option Addr) (c k : Nat) (Q : List Em) (l : List En) (hk : Q.length = k) (hl : Q.map emv = l) (h : Rd w All 3 A k (cellsL emc Q)) (hd : RDt w All (Q.map emd)) (hn : k ≤ 1000) (hkk : ∀ m ∈ Q, m.2.2.2.2.length ≤ 100000) (m : Em) (hm : Rd w All 1 m.2.2.1 m.2.2.2.2.length (m.2.2.2.2.map bv)) (hmk : m.2.2.2.2.length ≤ 100000) (hr0 : rightB a l = true) (e : Int) (p b : At) (r : List En) (K : Nat) (hK : r.length = K) (hs : app a l (emv m) = (e, p, b, r)) :
    Gives Try.prog 20 [.agg (lgc a A k c).toArray, .agg (emc m).toArray] [] w (X := (Option Addr × Nat) × Sh r) (fun x => .tuple #[.agg (lgc b x.1.1 K x.1.2).toArray, .agg (atc p).toArray, zi e]) (fun _ => True) (fun x => [row 44 3 x.1.1 K x.1.2 (cellsL emc x.2.1), dtB 5 (x.2.1.map emd)]) := by
  refine gives_C Try.func20 rfl Try.ntmps20 Try.results20 (by simp) (St.enter w) (fun B hB => ?_)
  obtain ⟨i, t⟩ := a
  have hll : l.length = k := by rw [← hl, List.length_map, hk]
  obtain ⟨lt, hla0⟩ : ∃ x, (lastA (i, t) l).2 = x := ⟨_, rfl⟩
  have hla : lastA (i, t) l = (i + k, lt) := by
    have : lastA (i, t) l = (i + k, (lastA (i, t) l).2) := by rw [lastA, hll]
    rw [this, hla0]
  obtain ⟨q0, hp⟩ : ∃ q, placedB (emv m) = q := ⟨_, rfl⟩
  have hla8 : lastA (i, t) (l ++ [emv m]) = (i + (k + 1), m.1) := by rw [last_app, hll]; rfl
  have hs : (if q0 = true ∧ lt ≤ m.1 then if k = 16 ∨ i + k = 18446744073709551614 then (6, (0, 0), (0, 0), []) else (0, lastA (i, t) (l ++ [emv m]), (i, t), l ++ [emv m]) else ((2, (0, 0), (0, 0), []) : Int × At × At × List En)) = (e, p, b, r) := by
    rw [← hs, app, hr0, hp, hla, hll]
    rfl
  have hff := right_fits hr0
  rw [hll] at hff
  have hff : k ≤ 16 ∧ i + k ≤ 18446744073709551614 := hff
  have hfit : (i, t).1 + k ≤ 18446744073709551615 := by show i + k ≤ _; omega
  focus (refine S_seq rfl ?_; refine S_region rfl rfl ?_; (refine R_eff (E_boxa (cs := lgc (i, t) A k c) rfl) ?_ rfl rfl; rintro _ _ ⟨b2, rfl, rfl⟩); (refine R_eff (E_boxa (cs := emc m) rfl) ?_ rfl rfl; rintro _ _ ⟨b3, rfl, rfl⟩); (refine R_eff (E_alloca rfl lg_zero) ?_ rfl rfl; rintro _ _ ⟨b4, rfl, rfl⟩); (refine R_eff (E_alloca rfl at_zero) ?_ rfl rfl; rintro _ _ ⟨b5, rfl, rfl⟩); refine R_p rfl ?_ rfl rfl; refine R_nil ?_; refine S_seq rfl ?_; refine S_seq rfl ?_)
  cases q0
  · rw [if_neg (fun h => Bool.false_ne_true h.1)] at hs
    injection hs with e1 e2
    injection e2 with e2 e3
    injection e3 with e3 e4
    subst e1 e2 e3 e4 hK
    refine S_draw ([pt b3 44 (emc m), pt b2 27 (lgc (i, t) A k c)]) sub_st (by kernel_rfl) rfl (by kernel_rfl) (by kernel_rfl : _ = 11) ?_
    refine D_take 0 rfl (T_loads (ds := emc m) rfl rfl rfl rfl rfl) ?_ rfl rfl (by kernel_rfl) (by kernel_rfl)
    refine D_one 1 rfl (E_hv0 (f := 50) ⟨_, Try.func50, rfl, by kernel_rfl⟩ (fun w hS => rightE_k w m _ hp) rfl rfl (fun _ => rfl)) ?_ rfl rfl (by kernel_rfl)
    rintro _ _ ⟨_, rfl, _, rfl⟩
    refine Nx_same sub_st ?_
    refine D_take 2 rfl (T_not rfl) ?_ rfl rfl (by kernel_rfl) (by kernel_rfl)
    refine D_take 3 rfl (T_decT rfl (by omega)) ?_ rfl rfl (by kernel_rfl) (by kernel_rfl)
    refine D_skip 4 rfl ?_ rfl rfl (by kernel_rfl) (by kernel_rfl)
    refine D_skip 5 rfl ?_ rfl rfl (by kernel_rfl) (by kernel_rfl)
    refine D_skip 6 rfl ?_ rfl rfl (by kernel_rfl) (by kernel_rfl)
    refine D_skip 7 rfl ?_ rfl rfl (by kernel_rfl) (by kernel_rfl)
    refine D_skip 8 rfl ?_ rfl rfl (by kernel_rfl) (by kernel_rfl)
    refine D_skip 9 rfl ?_ rfl rfl (by kernel_rfl) (by kernel_rfl)
    refine D_take 10 rfl (T_decT rfl (by omega)) ?_ rfl rfl (by kernel_rfl) (by kernel_rfl)
    refine D_done ?_ (by kernel_rfl)
    skip
    focus (refine S_true rfl rfl ?_; refine S_seq rfl ?_; refine S_region rfl rfl ?_; refine R_take (T_build0 lg_built0) ?_ rfl rfl; refine R_take (T_build0 at_built0) ?_ rfl rfl; (refine R_eff0 (E_storew (cs := lgc (0, 0) none 0 0) (ds := lgc (0, 0) none 0 0) rfl rfl rfl rfl (lgc_one _ _ _ _) rfl) ?_ rfl; rintro _ _ rfl); (refine R_eff0 (E_storew (cs := atc (0, 0)) (ds := atc (0, 0)) rfl rfl rfl rfl (atc_one _) rfl) ?_ rfl; rintro _ _ rfl); refine R_p rfl ?_ rfl rfl; refine R_nil ?_)
    refine hB _ _ _ _ _ rfl (.cell rfl rfl rfl inferInstance rfl (.cell rfl rfl rfl inferInstance rfl (.tmp rfl .nil))) fun w' hS => ⟨((none, 0), ⟨[], rfl, fun m hm => absurd hm (by simp)⟩), rfl, trivial, dtB_nil2 (hS.sublist (List.nil_sublist _))⟩
  by_cases hlt : m.1 < lt
  · rw [if_neg (by omega)] at hs
    injection hs with e1 e2
    injection e2 with e2 e3
    injection e3 with e3 e4
    subst e1 e2 e3 e4 hK
    refine S_draw ([pt b3 44 (emc m), pt b2 27 (lgc (i, t) A k c)]) sub_st (by kernel_rfl) rfl (by kernel_rfl) (by kernel_rfl : _ = 11) ?_
    refine D_take 0 rfl (T_loads (ds := emc m) rfl rfl rfl rfl rfl) ?_ rfl rfl (by kernel_rfl) (by kernel_rfl)
    refine D_one 1 rfl (E_hv0 (f := 50) ⟨_, Try.func50, rfl, by kernel_rfl⟩ (fun w hS => rightE_k w m _ hp) rfl rfl (fun _ => rfl)) ?_ rfl rfl (by kernel_rfl)
    rintro _ _ ⟨_, rfl, _, rfl⟩
    refine Nx_same sub_st ?_
    refine D_take 2 rfl (T_not rfl) ?_ rfl rfl (by kernel_rfl) (by kernel_rfl)
    refine D_take 3 rfl (pev_ok rfl) ?_ rfl rfl (by kernel_rfl) (by kernel_rfl)
    refine D_take 4 rfl (pev_ok rfl) ?_ rfl rfl (by kernel_rfl) (by kernel_rfl)
    refine D_take 5 rfl (T_load rfl rfl rfl rfl) ?_ rfl rfl (by kernel_rfl) (by kernel_rfl)
    refine D_take 6 rfl (T_loads (ds := lgc (i, t) A k c) rfl rfl rfl rfl rfl) ?_ rfl rfl (by kernel_rfl) (by kernel_rfl)
    refine D_one 7 rfl (E_hv0 (f := 27) ⟨_, Try.func27, rfl, by kernel_rfl⟩ (fun w hS => lastD_any w (i, t) A c k Q l hk hl ((Srd.old h (fun k _ => noOwns k)).rd w hS) (by omega) hfit _ hla) rfl rfl (fun _ => rfl)) ?_ rfl rfl (by kernel_rfl)
    rintro _ _ ⟨_, rfl, _, rfl⟩
    refine Nx_same sub_st ?_
    refine D_take 8 rfl (T_fldv (xs := atc (i + k, lt)) rfl rfl rfl rfl rfl rfl) ?_ rfl rfl (by kernel_rfl) (by kernel_rfl)
    refine D_take 9 rfl (T_decT rfl (by omega)) ?_ rfl rfl (by kernel_rfl) (by kernel_rfl)
    refine D_take 10 rfl (T_decT rfl (by omega)) ?_ rfl rfl (by kernel_rfl) (by kernel_rfl)
    refine D_done ?_ (by kernel_rfl)
    skip
    focus (refine S_true rfl rfl ?_; refine S_seq rfl ?_; refine S_region rfl rfl ?_; refine R_take (T_build0 lg_built0) ?_ rfl rfl; refine R_take (T_build0 at_built0) ?_ rfl rfl; (refine R_eff0 (E_storew (cs := lgc (0, 0) none 0 0) (ds := lgc (0, 0) none 0 0) rfl rfl rfl rfl (lgc_one _ _ _ _) rfl) ?_ rfl; rintro _ _ rfl); (refine R_eff0 (E_storew (cs := atc (0, 0)) (ds := atc (0, 0)) rfl rfl rfl rfl (atc_one _) rfl) ?_ rfl; rintro _ _ rfl); refine R_p rfl ?_ rfl rfl; refine R_nil ?_)
    refine hB _ _ _ _ _ rfl (.cell rfl rfl rfl inferInstance rfl (.cell rfl rfl rfl inferInstance rfl (.tmp rfl .nil))) fun w' hS => ⟨((none, 0), ⟨[], rfl, fun m hm => absurd hm (by simp)⟩), rfl, trivial, dtB_nil2 (hS.sublist (List.nil_sublist _))⟩
  rw [if_pos ⟨rfl, by omega⟩] at hs
  refine S_draw ([pt b3 44 (emc m), pt b2 27 (lgc (i, t) A k c)]) sub_st (by kernel_rfl) rfl (by kernel_rfl) (by kernel_rfl : _ = 11) ?_
  refine D_take 0 rfl (T_loads (ds := emc m) rfl rfl rfl rfl rfl) ?_ rfl rfl (by kernel_rfl) (by kernel_rfl)
  refine D_one 1 rfl (E_hv0 (f := 50) ⟨_, Try.func50, rfl, by kernel_rfl⟩ (fun w hS => rightE_k w m _ hp) rfl rfl (fun _ => rfl)) ?_ rfl rfl (by kernel_rfl)
  rintro _ _ ⟨_, rfl, _, rfl⟩
  refine Nx_same sub_st ?_
  refine D_take 2 rfl (T_not rfl) ?_ rfl rfl (by kernel_rfl) (by kernel_rfl)
  refine D_take 3 rfl (pev_ok rfl) ?_ rfl rfl (by kernel_rfl) (by kernel_rfl)
  refine D_take 4 rfl (pev_ok rfl) ?_ rfl rfl (by kernel_rfl) (by kernel_rfl)
  refine D_take 5 rfl (T_load rfl rfl rfl rfl) ?_ rfl rfl (by kernel_rfl) (by kernel_rfl)
  refine D_take 6 rfl (T_loads (ds := lgc (i, t) A k c) rfl rfl rfl rfl rfl) ?_ rfl rfl (by kernel_rfl) (by kernel_rfl)
  refine D_one 7 rfl (E_hv0 (f := 27) ⟨_, Try.func27, rfl, by kernel_rfl⟩ (fun w hS => lastD_any w (i, t) A c k Q l hk hl ((Srd.old h (fun k _ => noOwns k)).rd w hS) (by omega) hfit _ hla) rfl rfl (fun _ => rfl)) ?_ rfl rfl (by kernel_rfl)
  rintro _ _ ⟨_, rfl, _, rfl⟩
  refine Nx_same sub_st ?_
  refine D_take 8 rfl (T_fldv (xs := atc (i + k, lt)) rfl rfl rfl rfl rfl rfl) ?_ rfl rfl (by kernel_rfl) (by kernel_rfl)
  refine D_take 9 rfl (T_decF rfl (by omega)) ?_ rfl rfl (by kernel_rfl) (by kernel_rfl)
  refine D_take 10 rfl (pev_ok rfl) ?_ rfl rfl (by kernel_rfl) (by kernel_rfl)
  refine D_done ?_ (by kernel_rfl)
  skip
  by_cases hfull : k = 16 ∨ i + k = 18446744073709551614
  · rw [if_pos hfull] at hs
    injection hs with e1 e2
    injection e2 with e2 e3
    injection e3 with e3 e4
    subst e1 e2 e3 e4 hK
    by_cases h16 : k = 16
    · focus (refine S_false rfl rfl ?_; refine S_skip rfl ?_; refine S_seq rfl ?_; refine S_seq rfl ?_; refine S_region rfl rfl ?_; refine R_p rfl ?_ rfl rfl; refine R_take (T_load rfl rfl rfl rfl) ?_ rfl rfl; refine R_p rfl ?_ rfl rfl; refine R_take (T_decT rfl (by omega)) ?_ rfl rfl; refine R_p rfl ?_ rfl rfl; refine R_skip ?_ rfl rfl; refine R_skip ?_ rfl rfl; refine R_skip ?_ rfl rfl; refine R_skip ?_ rfl rfl; refine R_p rfl ?_ rfl rfl; refine R_nil ?_; refine S_true rfl rfl ?_; refine S_seq rfl ?_; refine S_region rfl rfl ?_; refine R_take (T_build0 lg_built0) ?_ rfl rfl; refine R_take (T_build0 at_built0) ?_ rfl rfl; (refine R_eff0 (E_storew (cs := lgc (0, 0) none 0 0) (ds := lgc (0, 0) none 0 0) rfl rfl rfl rfl (lgc_one _ _ _ _) rfl) ?_ rfl; rintro _ _ rfl); (refine R_eff0 (E_storew (cs := atc (0, 0)) (ds := atc (0, 0)) rfl rfl rfl rfl (atc_one _) rfl) ?_ rfl; rintro _ _ rfl); refine R_p rfl ?_ rfl rfl; refine R_nil ?_)
      refine hB _ _ _ _ _ rfl (.cell rfl rfl rfl inferInstance rfl (.cell rfl rfl rfl inferInstance rfl (.tmp rfl .nil))) fun w' hS => ⟨((none, 0), ⟨[], rfl, fun m hm => absurd hm (by simp)⟩), rfl, trivial, dtB_nil2 (hS.sublist (List.nil_sublist _))⟩
    · focus (refine S_false rfl rfl ?_; refine S_skip rfl ?_; refine S_seq rfl ?_; refine S_seq rfl ?_; refine S_region rfl rfl ?_; refine R_p rfl ?_ rfl rfl; refine R_take (T_load rfl rfl rfl rfl) ?_ rfl rfl; refine R_p rfl ?_ rfl rfl; refine R_take (T_decF rfl (by omega)) ?_ rfl rfl; refine R_p rfl ?_ rfl rfl; refine R_take (T_loads (ds := lgc (i, t) A k c) rfl rfl rfl rfl rfl) ?_ rfl rfl; ((refine R_eff (E_hv0 (f := 27) ⟨_, Try.func27, rfl, by kernel_rfl⟩ (fun w hS => lastD_any w (i, t) A c k Q l hk hl ((Srd.old h (fun k _ => noOwns k)).rd w hS) (by omega) hfit _ hla) rfl rfl (fun _ => rfl)) ?_ rfl rfl; rintro _ _ ⟨_, rfl, _, rfl⟩)); refine R_take (T_fldv (xs := atc (i + k, lt)) rfl rfl rfl rfl rfl rfl) ?_ rfl rfl; refine R_take (T_decT rfl (by omega)) ?_ rfl rfl; refine R_take (T_decT rfl (by omega)) ?_ rfl rfl; refine R_nil ?_; refine S_true rfl rfl ?_; refine S_seq rfl ?_; refine S_region rfl rfl ?_; refine R_take (T_build0 lg_built0) ?_ rfl rfl; refine R_take (T_build0 at_built0) ?_ rfl rfl; (refine R_eff0 (E_storew (cs := lgc (0, 0) none 0 0) (ds := lgc (0, 0) none 0 0) rfl rfl rfl rfl (lgc_one _ _ _ _) rfl) ?_ rfl; rintro _ _ rfl); (refine R_eff0 (E_storew (cs := atc (0, 0)) (ds := atc (0, 0)) rfl rfl rfl rfl (atc_one _) rfl) ?_ rfl; rintro _ _ rfl); refine R_p rfl ?_ rfl rfl; refine R_nil ?_)
      refine hB _ _ _ _ _ rfl (.cell rfl rfl rfl inferInstance rfl (.cell rfl rfl rfl inferInstance rfl (.tmp rfl .nil))) fun w' hS => ⟨((none, 0), ⟨[], rfl, fun m hm => absurd hm (by simp)⟩), rfl, trivial, dtB_nil2 (hS.sublist (List.nil_sublist _))⟩
  rw [if_neg hfull, hla8] at hs
  injection hs with e1 e2
  injection e2 with e2 e3
  injection e3 with e3 e4
  subst e1 e2 e3 e4
  have hKK : K = k + 1 := by rw [← hK, List.length_append, hll]; rfl
  subst hKK
  have hl1 : [m].map emv = [emv m] := rfl
  have hk1 : ∀ m' ∈ [m], m'.2.2.2.2.length ≤ 100000 := fun m' h' => by rw [List.mem_singleton.1 h']; exact hmk
  have hc1 : cellsL emc [m] = emc m := cellsL_one m
  have hd1 : RDt w All ([m].map emd) := fun d hd' => by
    obtain ⟨m', h', rfl⟩ := List.mem_map.1 hd'
    rw [List.mem_singleton.1 h']
    exact hm
  focus (refine S_false rfl rfl ?_; refine S_skip rfl ?_; refine S_seq rfl ?_; refine S_seq rfl ?_; refine S_region rfl rfl ?_; refine R_p rfl ?_ rfl rfl; refine R_take (T_load rfl rfl rfl rfl) ?_ rfl rfl; refine R_p rfl ?_ rfl rfl; refine R_take (T_decF rfl (by omega)) ?_ rfl rfl; refine R_p rfl ?_ rfl rfl; refine R_take (T_loads (ds := lgc (i, t) A k c) rfl rfl rfl rfl rfl) ?_ rfl rfl; ((refine R_eff (E_hv0 (f := 27) ⟨_, Try.func27, rfl, by kernel_rfl⟩ (fun w hS => lastD_any w (i, t) A c k Q l hk hl ((Srd.old h (fun k _ => noOwns k)).rd w hS) (by omega) hfit _ hla) rfl rfl (fun _ => rfl)) ?_ rfl rfl; rintro _ _ ⟨_, rfl, _, rfl⟩)); refine R_take (T_fldv (xs := atc (i + k, lt)) rfl rfl rfl rfl rfl rfl) ?_ rfl rfl; refine R_take (T_decF rfl (by omega)) ?_ rfl rfl; refine R_p rfl ?_ rfl rfl; refine R_nil ?_; refine S_false rfl rfl ?_; refine S_skip rfl ?_; refine S_seq rfl ?_; refine S_region rfl rfl ?_; refine R_take (T_loads (ds := lgc (i, t) A k c) rfl rfl rfl rfl rfl) ?_ rfl rfl; (refine R_eff (E_hvG (f := 47) ⟨_, Try.func47, rfl, by kernel_rfl⟩ (fun w hS => copyD_any w (i, t) A c k Q l hk hl ((Srd.old h (fun k _ => noOwns k)).rd w hS) ((SDt.old hd (fun k _ => noOwns k)).rd w hS) (by omega) hkk) rfl rfl) ?_ rfl rfl; rintro _ _ ⟨⟨⟨A5, c5⟩, P5⟩, rfl, hc5, rfl⟩; dsimp only [List.cons_append, List.nil_append]); (refine R_eff (E_alloca rfl lg_zero) ?_ rfl rfl; rintro _ _ ⟨b7, rfl, rfl⟩); (refine R_eff0 (E_storew (cs := lgc (0, 0) none 0 0) (ds := lgc (i, t) A5 k c5) rfl rfl rfl rfl (lgc_one _ _ _ _) rfl) ?_ rfl; rintro _ _ rfl); refine R_nil ?_; refine S_seq rfl ?_)
  have hl5 : P5.1.length = k := (em_len P5.2.1).trans hll
  refine S_draw ([pt b7 27 (lgc (i, t) A5 k c5), pt b3 44 (emc m)]) sub_st (by kernel_rfl) rfl (by kernel_rfl) (by kernel_rfl : _ = 8) ?_
  refine D_take 0 rfl (pev_ok rfl) ?_ rfl rfl (by kernel_rfl) (by kernel_rfl)
  refine D_take 1 rfl (T_load rfl rfl rfl rfl) ?_ rfl rfl (by kernel_rfl) (by kernel_rfl)
  refine D_take 2 rfl (T_loads (ds := emc m) rfl rfl rfl rfl rfl) ?_ rfl rfl (by kernel_rfl) (by kernel_rfl)
  refine D_one 3 rfl (E_litS (vs := [.agg (emc m).toArray]) (size := 3) (ds := emc m) rfl rfl rfl rfl rfl rfl (by simp [vcells, emc_len]) (by simp [vcells]) (by omega)) ?_ rfl rfl (by kernel_rfl)
  rintro _ _ ⟨vb, rfl, rfl⟩
  refine Nx_same sub_st ?_
  refine D_one 4 rfl (E_hvG (f := 48) ⟨_, Try.func48, rfl, by kernel_rfl⟩ (fun w hS => entD_any w (some ⟨vb, 0, none⟩) 1 1 [m] [emv m] rfl hl1 (by rw [hc1]; exact (Srd.pt (n := 1) (g := vb) (ds := emc m) rfl (fun j u hj => by rw [Nat.zero_add]; exact hj)).rd w hS) ((SDt.old hd1 (fun k _ => noOwns k)).rd w hS) (by omega) hk1) rfl rfl) ?_ rfl rfl (by kernel_rfl)
  rintro _ _ ⟨⟨⟨A7, c7⟩, P7⟩, rfl, _, rfl⟩; dsimp only [List.cons_append, List.nil_append]
  refine Nx_same sub_st ?_
  refine D_one 5 rfl (E_appS (sz := 3) (m := k) (c := c5) (A := A5) rfl rfl rfl rfl rfl rfl rfl (by decide) (Srd.row (A := A7) (n := 1) (c := c7)) (em_ones P7.1) (by show (k + 1) * 40 ≤ _; omega) (by unfold maxLen; omega)) ?_ rfl rfl (by kernel_rfl)
  rintro _ _ ⟨A8, c8, rfl, rfl⟩
  refine Nx_same sub_st ?_
  refine D_take 6 rfl (pev_ok rfl) ?_ rfl rfl (by kernel_rfl) (by kernel_rfl)
  refine D_one 7 rfl (E_store1 rfl rfl rfl rfl rfl rfl (by show _ < 3; omega)) ?_ rfl rfl (by kernel_rfl)
  rintro _ _ rfl
  refine Nx_pivot (by kernel_rfl) ?_
  refine D_done ?_ (by kernel_rfl)
  skip
  have hl7 : P7.1.length = 1 := (em_len P7.2.1).trans rfl
  focus (refine S_seq rfl ?_)
  refine S_draw ([pt b7 27 ((lgc (i, t) A5 k c5).set (0 + 2) (.slice A8 (k + 1) c8))]) sub_st (by kernel_rfl) rfl (by kernel_rfl) (by kernel_rfl : _ = 6) ?_
  refine D_take 0 rfl (T_loads (ds := lgc (i, t) A8 (k + 1) c8) rfl rfl rfl rfl rfl) ?_ rfl rfl (by kernel_rfl) (by kernel_rfl)
  refine D_take 1 rfl (T_loads (ds := lgc (i, t) A8 (k + 1) c8) rfl rfl rfl rfl rfl) ?_ rfl rfl (by kernel_rfl) (by kernel_rfl)
  refine D_one 2 rfl (E_hv0 (f := 27) ⟨_, Try.func27, rfl, by kernel_rfl⟩ (fun w hS => lastD_any w (i, t) A8 c8 (k + 1) (P5.1 ++ P7.1) (l ++ [emv m]) (by rw [List.length_append, hl5, hl7]) (by rw [List.map_append, P5.2.1, P7.2.1]) (by rw [cellsL_app]; exact ((Srd.row (A := A8) (n := (k + 1)) (c := c8)).rd w hS)) (by omega) (by show i + (k + 1) ≤ _; omega) _ hla8) rfl rfl (fun _ => rfl)) ?_ rfl rfl (by kernel_rfl)
  rintro _ _ ⟨_, rfl, _, rfl⟩
  refine Nx_same sub_st ?_
  refine D_one 3 rfl (E_storew (cs := lgc (0, 0) none 0 0) (ds := lgc (i, t) A8 (k + 1) c8) rfl rfl rfl rfl (lgc_one _ _ _ _) rfl) ?_ rfl rfl (by kernel_rfl)
  rintro _ _ rfl
  refine Nx_same sub_st ?_
  refine D_one 4 rfl (E_storew (cs := atc (0, 0)) (ds := atc (i + (k + 1), m.1)) rfl rfl rfl rfl (atc_one _) rfl) ?_ rfl rfl (by kernel_rfl)
  rintro _ _ rfl
  refine Nx_same sub_st ?_
  refine D_take 5 rfl (pev_ok rfl) ?_ rfl rfl (by kernel_rfl) (by kernel_rfl)
  refine D_done ?_ (by kernel_rfl)
  skip
  skip
  refine hB _ _ _ _ _ rfl (.cell rfl rfl rfl inferInstance rfl (.cell rfl rfl rfl inferInstance rfl (.tmp rfl .nil))) fun w' hS => ⟨((A8, c8), ⟨P5.1 ++ P7.1, by rw [List.map_append, P5.2.1, P7.2.1], fun m hm => (List.mem_append.1 hm).elim (P5.2.2 m) (P7.2.2 m)⟩), rfl, trivial, ?_⟩
  dsimp only
  rw [cellsL_app, List.map_append]
  have h9 := sub_st (H' := [dtB 5 (P5.1.map emd), dtB 5 (P7.1.map emd), row 44 3 A8 (k + 1) c8 (cellsL emc P5.1 ++ cellsL emc P7.1)]) w' hS
  have h10 := dtB_app h9
  exact sub_st w' h10
set_option maxRecDepth 100000 in
set_option maxHeartbeats 4000000 in
theorem cmpD_any (w : World) (a : At) (A : Option Addr) (c k : Nat) (Q : List Em) (l : List En) (hk : Q.length = k) (hl : Q.map emv = l) (h : Rd w All 3 A k (cellsL emc Q)) (hd : RDt w All (Q.map emd)) (hc : k ≤ c) (hn : k ≤ 1000) (hkk : ∀ m ∈ Q, m.2.2.2.2.length ≤ 100000) (hr0 : rightB a l = true) (idx : Nat) (e : Int) (b : At) (r : List En) (K : Nat) (hK : r.length = K) (hs : cmp a l idx = (e, b, r)) (q : Bool) (hq : decide (e = 0) = q) :
    Gives Try.prog 22 [.agg (lgc a A k c).toArray, .int .u64 (idx : Int)] [] w (X := (Option Addr × Nat) × Sh r) (fun x => .tuple #[.agg (lgc b x.1.1 K x.1.2).toArray, .bool q]) (fun _ => True) (fun x => [row 44 3 x.1.1 K x.1.2 (cellsL emc x.2.1), dtB 5 (x.2.1.map emd)]) := by
  refine gives_C Try.func22 rfl Try.ntmps22 Try.results22 (by simp) (St.enter w) (fun B hB => ?_)
  obtain ⟨i, t⟩ := a
  have hll : l.length = k := by rw [← hl, List.length_map, hk]
  have hff := right_fits hr0
  rw [hll] at hff
  have hff : k ≤ 16 ∧ i + k ≤ 18446744073709551614 := hff
  have hfit : (i, t).1 + k ≤ 18446744073709551615 := by show i + k ≤ _; omega
  focus (refine S_seq rfl ?_; refine S_region rfl rfl ?_; (refine R_eff (E_boxa (cs := lgc (i, t) A k c) rfl) ?_ rfl rfl; rintro _ _ ⟨b2, rfl, rfl⟩); (refine R_eff (E_alloca rfl lg_zero) ?_ rfl rfl; rintro _ _ ⟨b4, rfl, rfl⟩); refine R_p rfl ?_ rfl rfl; refine R_nil ?_; refine S_seq rfl ?_; refine S_seq rfl ?_; refine S_region rfl rfl ?_; refine R_p rfl ?_ rfl rfl; refine R_take (T_load rfl rfl rfl rfl) ?_ rfl rfl; refine R_p rfl ?_ rfl rfl; refine R_take (T_addN rfl rfl (by unfold fits; omega)) ?_ rfl rfl; refine R_p rfl ?_ rfl rfl; refine R_nil ?_; refine S_block rfl ?_)
  refine S_loop (X := Nat) (fun j => [(1, .int .u64 (idx : Int)), (2, .pointer (some ⟨b2, 0, none⟩)), (4, .pointer (some ⟨b4, 0, none⟩)), (11, .int .i64 ((k + 1 : Nat) : Int)), (12, .int .i64 (j : Int))]) (fun _ => [pt b4 27 (lgc (0, 0) none 0 0), pt b2 27 (lgc (i, t) A k c)]) (fun j => j ≤ k + 1 ∧ ∀ q, q < j → (placeN (i, t) l q).1 ≠ idx) (fun j => k + 1 - j) rfl 0 ⟨Nat.zero_le _, fun i hi => by omega⟩ (Sub.cons rfl (Sub.cons rfl (Sub.cons rfl (Sub.cons rfl (Sub.cons rfl Sub.nil))))) sub_st ?_
  rintro j ⟨hj, hno⟩ J hJ
  rcases Nat.lt_or_ge j (k + 1) with hjl | hjl
  · have hpn := placeN_fst (i, t) l j
    obtain ⟨⟨p, u⟩, hp⟩ : ∃ p, placeN (i, t) l j = p := ⟨_, rfl⟩
    rw [hp] at hpn
    have hpn : p = i + j := hpn
    have hjk : j ≤ k := by omega
    by_cases hpi : p = idx
    · have ef : findR (i, t) l idx = ((j : Int), placeN (i, t) l j) := findR_hit (j := j) (by omega) (by rw [hp]; exact hpi)
      have ec : cmp (i, t) l idx = (0, (p, u), l.drop j) := by
        unfold cmp
        rw [if_pos hr0, ef, hp]
        dsimp only
        rw [if_neg (by omega), Int.toNat_natCast]
      rw [ec] at hs
      injection hs with e1 e2
      injection e2 with e2 e3
      subst e1 e2 e3
      obtain rfl : q = true := by rw [← hq]; rfl
      have hKK : K = k - j := by rw [← hK, List.length_drop, hll]
      subst hKK
      have h' : Rd w All 3 A Q.length (cellsL emc Q) := by rw [hk]; exact h
      have hcutr : Rd w All 3 (cutP A c j 3) (k - j) (cellsL emc (Q.drop j)) := by
        have := rd_cutE (q := j) (c := c) h' (by omega) (by omega)
        rwa [hk] at this
      have hcutd := rdt_drop hd j
      have hkd : ∀ m ∈ Q.drop j, m.2.2.2.2.length ≤ 100000 := fun m hm => hkk m (List.mem_of_mem_drop hm)
      focus (refine S_seq rfl ?_; refine S_region rfl rfl ?_; refine R_take (T_decT rfl (by omega)) ?_ rfl rfl; refine R_nil ?_; refine S_seq rfl ?_; refine S_true rfl rfl ?_; refine S_skip rfl ?_; refine S_seq rfl ?_; refine S_block rfl ?_; refine S_seq rfl ?_; refine S_region rfl rfl ?_; refine R_p rfl ?_ rfl rfl; refine R_p rfl ?_ rfl rfl; refine R_nil ?_; refine S_seq rfl ?_; refine S_region rfl rfl ?_; refine R_take (T_loads (ds := lgc (i, t) A k c) rfl rfl rfl rfl rfl) ?_ rfl rfl; refine R_p rfl ?_ rfl rfl; ((refine R_eff (E_hv0 (f := 46) ⟨_, Try.func46, rfl, by kernel_rfl⟩ (fun w hS => placeD_any w (i, t) A c k Q l hk hl ((Srd.old h (fun k _ => noOwns k)).rd w hS) (by omega) hfit j hjk (p, u) hp) rfl rfl (fun _ => rfl)) ?_ rfl rfl; rintro _ _ ⟨_, rfl, _, rfl⟩)); (refine R_eff (E_alloca rfl at_zero) ?_ rfl rfl; rintro _ _ ⟨b7, rfl, rfl⟩); (refine R_eff0 (E_storew (cs := atc (0, 0)) (ds := atc (p, u)) rfl rfl rfl rfl (atc_one _) rfl) ?_ rfl; rintro _ _ rfl); refine R_nil ?_; refine S_seq rfl ?_; refine S_region rfl rfl ?_; refine R_p rfl ?_ rfl rfl; refine R_take (T_load rfl rfl rfl rfl) ?_ rfl rfl; refine R_p rfl ?_ rfl rfl; refine R_take (T_decT rfl (by omega)) ?_ rfl rfl; refine R_nil ?_; refine S_true rfl rfl ?_; refine S_seq rfl ?_)
      refine S_draw ([pt b7 24 (atc (p, u)), pt b2 27 (lgc (i, t) A k c)]) sub_st (by kernel_rfl) rfl (by kernel_rfl) (by kernel_rfl : _ = 9) ?_
      refine D_take 0 rfl (T_loads (ds := atc (p, u)) rfl rfl rfl rfl rfl) ?_ rfl rfl (by kernel_rfl) (by kernel_rfl)
      refine D_take 1 rfl (pev_ok rfl) ?_ rfl rfl (by kernel_rfl) (by kernel_rfl)
      refine D_take 2 rfl (T_load rfl rfl rfl rfl) ?_ rfl rfl (by kernel_rfl) (by kernel_rfl)
      refine D_take 3 rfl (pev_ok rfl) ?_ rfl rfl (by kernel_rfl) (by kernel_rfl)
      refine D_take 4 rfl (T_slN (sz := 3) (q := j) rfl rfl rfl rfl rfl rfl hjk hc) ?_ rfl rfl (by kernel_rfl) (by kernel_rfl)
      refine D_take 5 rfl (T_build2 rfl rfl (lg_built2 (p, u) _ _ _)) ?_ rfl rfl (by kernel_rfl) (by kernel_rfl)
      refine D_one 6 rfl (E_hvG (f := 47) ⟨_, Try.func47, rfl, by kernel_rfl⟩ (fun w hS => copyD_any w (p, u) (cutP A c j 3) (c - j) (k - j) (Q.drop j) (l.drop j) (by rw [List.length_drop]; omega) (by rw [List.map_drop, hl]) ((Srd.old hcutr (fun k _ => noOwns k)).rd w hS) ((SDt.old hcutd (fun k _ => noOwns k)).rd w hS) (by omega) hkd) rfl rfl) ?_ rfl rfl (by kernel_rfl)
      rintro _ _ ⟨⟨⟨A5, c5⟩, P5⟩, rfl, _, rfl⟩; dsimp only [List.cons_append, List.nil_append]
      refine Nx_same sub_st ?_
      refine D_one 7 rfl (E_storew (cs := lgc (0, 0) none 0 0) (ds := lgc (p, u) A5 (k - j) c5) rfl rfl rfl rfl (lgc_one _ _ _ _) rfl) ?_ rfl rfl (by kernel_rfl)
      rintro _ _ rfl
      refine Nx_same sub_st ?_
      refine D_take 8 rfl (pev_ok rfl) ?_ rfl rfl (by kernel_rfl) (by kernel_rfl)
      refine D_done ?_ (by kernel_rfl)
      skip
      skip
      refine hB _ _ _ _ _ rfl (.cell rfl rfl rfl inferInstance rfl (.tmp rfl .nil)) fun w' hS => ⟨((A5, c5), P5), rfl, trivial, sub_st _ hS⟩
    · focus (refine S_seq rfl ?_; refine S_region rfl rfl ?_; refine R_take (T_decT rfl (by omega)) ?_ rfl rfl; refine R_nil ?_; refine S_seq rfl ?_; refine S_true rfl rfl ?_; refine S_skip rfl ?_; refine S_seq rfl ?_; refine S_block rfl ?_; refine S_seq rfl ?_; refine S_region rfl rfl ?_; refine R_p rfl ?_ rfl rfl; refine R_p rfl ?_ rfl rfl; refine R_nil ?_; refine S_seq rfl ?_; refine S_region rfl rfl ?_; refine R_take (T_loads (ds := lgc (i, t) A k c) rfl rfl rfl rfl rfl) ?_ rfl rfl; refine R_p rfl ?_ rfl rfl; ((refine R_eff (E_hv0 (f := 46) ⟨_, Try.func46, rfl, by kernel_rfl⟩ (fun w hS => placeD_any w (i, t) A c k Q l hk hl ((Srd.old h (fun k _ => noOwns k)).rd w hS) (by omega) hfit j hjk (p, u) hp) rfl rfl (fun _ => rfl)) ?_ rfl rfl; rintro _ _ ⟨_, rfl, _, rfl⟩)); (refine R_eff (E_alloca rfl at_zero) ?_ rfl rfl; rintro _ _ ⟨b7, rfl, rfl⟩); (refine R_eff0 (E_storew (cs := atc (0, 0)) (ds := atc (p, u)) rfl rfl rfl rfl (atc_one _) rfl) ?_ rfl; rintro _ _ rfl); refine R_nil ?_; refine S_seq rfl ?_; refine S_region rfl rfl ?_; refine R_p rfl ?_ rfl rfl; refine R_take (T_load rfl rfl rfl rfl) ?_ rfl rfl; refine R_p rfl ?_ rfl rfl; refine R_take (T_decF rfl (by omega)) ?_ rfl rfl; refine R_nil ?_; refine S_false rfl rfl ?_; refine S_skip rfl ?_; refine RS_blk ?_; refine S_region rfl rfl ?_; refine R_take (T_addN rfl rfl (by unfold fits; omega)) ?_ rfl rfl; refine R_p rfl ?_ rfl rfl; refine R_nil ?_)
      refine hJ (j + 1) _ _ ⟨by omega, fun q hq => ?_⟩ (Sub.cons rfl (Sub.cons rfl (Sub.cons rfl (Sub.cons rfl (Sub.cons rfl Sub.nil))))) sub_st (by omega)
      rcases Nat.lt_or_ge q j with h3 | h3
      · exact hno q h3
      · rw [show q = j by omega, hp]; exact hpi
  · have ec : cmp (i, t) l idx = (4, (0, 0), []) := by
      unfold cmp
      rw [if_pos hr0, findR_not (fun q hq => hno q (by omega)), if_pos (by decide)]
    rw [ec] at hs
    injection hs with e1 e2
    injection e2 with e2 e3
    subst e1 e2 e3 hK
    obtain rfl : q = false := by rw [← hq]; rfl
    focus (refine S_seq rfl ?_; refine S_region rfl rfl ?_; refine R_take (T_decF rfl (by omega)) ?_ rfl rfl; refine R_nil ?_; refine S_seq rfl ?_; refine S_false rfl rfl ?_; refine S_exit rfl rfl ?_; refine S_seq rfl ?_; refine S_region rfl rfl ?_; refine R_take (T_build0 lg_built0) ?_ rfl rfl; (refine R_eff0 (E_storew (cs := lgc (0, 0) none 0 0) (ds := lgc (0, 0) none 0 0) rfl rfl rfl rfl (lgc_one _ _ _ _) rfl) ?_ rfl; rintro _ _ rfl); refine R_p rfl ?_ rfl rfl; refine R_nil ?_)
    refine hB _ _ _ _ _ rfl (.cell rfl rfl rfl inferInstance rfl (.tmp rfl .nil)) fun w' hS => ⟨((none, 0), ⟨[], rfl, fun m hm => absurd hm (by simp)⟩), rfl, trivial, dtB_nil2 (hS.sublist (List.nil_sublist _))⟩
end Go.Proofs.Ytkdpfnaaopimoaa
