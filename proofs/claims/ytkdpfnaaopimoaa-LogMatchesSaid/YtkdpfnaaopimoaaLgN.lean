/- The statement LogSplices. -/
import Derived.Test.YtkdpfnaaopimoaaLgM
namespace Go.Proofs.Ytkdpfnaaopimoaa
open Go.RowKit Go.ChangeShapes Go.WideShapes Go.ChangeAt
open Asn (pt row rb)
set_option linter.unusedVariables false
set_option linter.unusedSimpArgs false
--@use N

theorem pc_zero : ti32.zero = .agg (lgc (0, 0) none 0 0).toArray := by kernel_rfl
theorem rd_none3 {w : World} : Rd w All 3 none 0 (cellsL emc []) := ⟨rfl, fun h => absurd h (Nat.lt_irrefl 0)⟩
theorem same_tt (a : At) (l : List En) : (decide (a = a) && decide (l = l)) = true := by rw [decide_eq_true rfl, decide_eq_true rfl]; rfl
theorem cutE_id (l : List En) (n : Nat) (h : l.length ≤ n) (ht : ∀ e ∈ l, e.2.2.length ≤ 1025) : cutE l n = l := by
  unfold cutE
  rw [List.take_of_length_le h]
  conv => rhs; rw [← List.map_id l]
  refine List.map_congr_left fun e he => ?_
  rw [List.take_of_length_le (ht e he)]
  rfl
theorem spl_nor {a : At} {l : List En} {p : At} {es : List En} (h : rightB a l = false) : spl a l p es = (220, 0, (0, 0), []) := by
  unfold spl
  rw [if_neg (by rw [h]; exact Bool.false_ne_true)]
theorem spl_out {a : At} {l : List En} {p : At} {es : List En} {e : Int} {last : Nat} {b : At} {r : List En} (h : spl a l p es = (e, last, b, r)) {N : Nat} (h1 : ∀ x ∈ l, x.2.2.length ≤ N) (h2 : ∀ x ∈ es, x.2.2.length ≤ N) : r.length ≤ 16 ∧ (∀ x ∈ r, x.2.2.length ≤ N) ∧ (e = 0 → b = a) := by
  by_cases he : e = 0
  · subst he
    obtain ⟨_, _, _, _, hba, hform⟩ := spl_ok h
    subst hba
    refine ⟨(right_fits (join_right h)).1, fun x hx => ?_, fun _ => rfl⟩
    rcases hform with ⟨_, rfl⟩ | ⟨i, _, _, _, _, _, _, _, _, rfl⟩
    · exact h1 x hx
    · rcases List.mem_append.1 hx with hx | hx
      · exact h1 x (List.mem_of_mem_take hx)
      · exact h2 x (List.mem_of_mem_drop hx)
  · obtain ⟨e', _, hs⟩ := spl_err (by rw [h]; exact he : (spl a l p es).1 ≠ 0)
    rw [h] at hs
    injection hs with _ e2
    injection e2 with _ e3
    injection e3 with _ e4
    subst e4
    exact ⟨Nat.zero_le _, fun x hx => absurd hx (by simp), fun h => absurd h he⟩
theorem entries_S (w : World) (A : Option Addr) (c : Nat) (Q : List Em) (k : Nat) (hk : Q.length = k) (h : Rd w All 3 A k (cellsL emc Q)) (hd : RDt w All (Q.map emd)) (hcap : ∀ m ∈ Q, m.2.2.2.2.length ≤ m.2.2.2.1) (n : Nat) (hn : n ≤ 100) (L : List En) (hL : cutE (Q.map emv) n = L) (K : Nat) (hK : L.length = K) :
    Gives Try.prog 12 [.slice A k c, zi n] [] w (X := (Option Addr × Nat) × Sh L) (fun x => .slice x.1.1 K x.1.2) (fun x => K ≤ x.1.2) (fun x => [row 44 3 x.1.1 K x.1.2 (cellsL emc x.2.1), dtB 5 (x.2.1.map emd)]) := by
  subst hk
  subst hK
  subst hL
  exact (entriesL_any w A c Q h hd hcap n hn).mono fun e w' ⟨⟨⟨A5, c5⟩, P⟩, he, ⟨h1, h2, h3⟩, hS⟩ => ⟨((A5, c5), ⟨P, h1, h3⟩), he, h2, hS⟩
theorem splice_S (w : World) (a : At) (A : Option Addr) (c k : Nat) (Q : List Em) (l : List En) (hk : Q.length = k) (hl : Q.map emv = l) (h : Rd w All 3 A k (cellsL emc Q)) (hd : RDt w All (Q.map emd)) (p : At) (A2 : Option Addr) (cE k2 : Nat) (E : List Em) (es : List En) (hk2 : E.length = k2) (hl2 : E.map emv = es) (h2 : Rd w All 3 A2 k2 (cellsL emc E)) (hd2 : RDt w All (E.map emd)) (hcE : k2 ≤ cE) (hn : k ≤ 1000) (hn2 : k2 ≤ 1000) (hkk : ∀ m ∈ Q, m.2.2.2.2.length ≤ 100000) (hkk2 : ∀ m ∈ E, m.2.2.2.2.length ≤ 100000) (e : Int) (last : Nat) (b : At) (r : List En) (K : Nat) (hK : r.length = K) (hs : spl a l p es = (e, last, b, r)) :
    Gives Try.prog 13 [.agg (lgc a A k c).toArray, .agg (atc p).toArray, .slice A2 k2 cE] [] w (X := (Option Addr × Nat) × Sh r) (fun x => .tuple #[.agg (lgc b x.1.1 K x.1.2).toArray, .int .u64 (last : Int), zi e]) (fun _ => True) (fun x => [row 44 3 x.1.1 K x.1.2 (cellsL emc x.2.1), dtB 5 (x.2.1.map emd)]) := by
  subst hK
  exact (splice_k w a A c k Q l hk hl h hd p A2 cE k2 E es hk2 hl2 h2 hd2 hcE hn hn2 hkk hkk2 e last b r hs).mono fun u w' ⟨⟨⟨A5, c5⟩, P⟩, he, h1, hS⟩ => ⟨((A5, c5), ⟨P, h1, fun m hm => dtB_caps (e := 5) (D := P.map emd) hS (by simp) (emd m) (List.mem_map.2 ⟨m, hm, rfl⟩)⟩), he, trivial, hS⟩
theorem sameE_kr (w : World) (A A2 : Option Addr) (c c2' k k2 : Nat) (Q M : List Em) (l l2 : List En) (hk : Q.length = k) (hk2 : M.length = k2) (hl : Q.map emv = l) (hl2 : M.map emv = l2) (h : Rd w All 3 A k (cellsL emc Q)) (h2 : Rd w All 3 A2 k2 (cellsL emc M)) (hq : ∀ m ∈ Q, BsM w m) (hm : ∀ m ∈ M, BsM w m) (hn : k ≤ 100000) (hn2 : k2 ≤ 100000) (r : Bool) (hr : decide (l = l2) = r) :
    Gives Try.prog 15 [.slice A k c, .slice A2 k2 c2'] [] w (X := Unit) (fun _ => .bool r) (fun _ => True) (fun _ => []) := by
  subst hk
  subst hk2
  subst hl
  subst hl2
  subst hr
  exact sameE_any w A A2 c c2' Q M h h2 hq hm hn hn2
set_option maxRecDepth 100000 in
set_option maxHeartbeats 4000000 in
theorem splices_any (w : World) (a : At) (A : Option Addr) (c : Nat) (Q : List Em) (h : Rd w All 3 A Q.length (cellsL emc Q)) (hd : RDt w All (Q.map emd)) (hcap : ∀ m ∈ Q, m.2.2.2.2.length ≤ m.2.2.2.1) (A2 : Option Addr) (c2' : Nat) (Z : List Lm) (h2 : Rd w All 3 A2 Z.length (cellsL lmc Z)) (hz : ∀ q ∈ Z, LmR w q) (hZl : Z.length ≤ maxLen) :
    Gives Try.prog 3 [.agg (lgc a A Q.length c).toArray, .slice A2 Z.length c2'] [] w (X := Unit) (fun _ => .bool true) (fun _ => True) (fun _ => []) := by
  refine gives_S Try.func3 rfl Try.ntmps3 Try.results3 (by simp) (St.enter w) (fun B hB => ?_)
  have hZm : Z.length ≤ 9223372036854775807 := hZl
  have hne : 0 < Z.length → A2 ≠ none := fun h0 => by obtain ⟨ad, rfl, _⟩ := h2.2 (by omega); simp
  have hL0l := cutE_len (Q.map emv) 17
  have hL0t := cutE_txt (Q.map emv) 17
  obtain ⟨L0, hL0⟩ : ∃ L, cutE (Q.map emv) 17 = L := ⟨_, rfl⟩
  rw [hL0] at hL0l hL0t
  obtain ⟨K0, hK0⟩ : ∃ K, L0.length = K := ⟨_, rfl⟩
  focus (refine S_seq rfl ?_; refine S_region rfl rfl ?_; (refine R_eff (E_boxa (cs := lgc a A Q.length c) rfl) ?_ rfl rfl; rintro _ _ ⟨b2, rfl, rfl⟩); refine R_p rfl ?_ rfl rfl; refine R_nil ?_; refine S_seq rfl ?_; refine S_seq rfl ?_; refine S_region rfl rfl ?_; (refine R_eff (E_hv0 (f := 10) ⟨_, Try.func10, rfl, by kernel_rfl⟩ (fun w hS => wakes12_any w) rfl rfl (fun _ => rfl)) ?_ rfl rfl; rintro _ _ ⟨_, rfl, _, rfl⟩); refine R_take (T_not rfl) ?_ rfl rfl; refine R_nil ?_; refine S_false rfl rfl ?_; refine S_skip rfl ?_; refine S_seq rfl ?_; refine S_region rfl rfl ?_; refine R_take (T_loads (ds := lgc a A Q.length c) rfl rfl rfl rfl rfl) ?_ rfl rfl; (refine R_eff (E_hvG (f := 11) ⟨_, Try.func11, rfl, by kernel_rfl⟩ (fun w hS => short_S w a A c Q Q.length rfl ((Srd.old h (fun k _ => noOwns k)).rd w hS) ((SDt.old hd (fun k _ => noOwns k)).rd w hS) hcap L0 hL0 K0 hK0) rfl rfl) ?_ rfl rfl; rintro _ _ ⟨⟨⟨A5, c5⟩, P5⟩, rfl, hc5, rfl⟩; dsimp only [List.cons_append, List.nil_append]; have hl5 : P5.1.length = K0 := (em_len P5.2.1).trans hK0); (refine R_eff0 (E_storew (cs := lgc a A Q.length c) (ds := lgc a A5 K0 c5) rfl rfl rfl rfl (lgc_one _ _ _ _) rfl) ?_ rfl; rintro _ _ rfl); refine R_nil ?_; refine S_seq rfl ?_; refine S_seq rfl ?_; refine S_region rfl rfl ?_; refine R_p rfl ?_ rfl rfl; refine R_p rfl ?_ rfl rfl; refine R_p rfl ?_ rfl rfl; refine R_nil ?_; refine S_block rfl ?_)
  refine S_loop (X := Nat × Nat × (Option Addr × Nat) × List Em) (fun x => [(2, .pointer (some ⟨b2, 0, none⟩)), (20, .slice A2 Z.length c2'), (21, .int .i64 (Z.length : Int)), (22, .int .i64 (x.1 : Int))]) (fun x => [pt b2 27 (lgc a x.2.2.1.1 x.2.1 x.2.2.1.2), row 44 3 x.2.2.1.1 x.2.1 x.2.2.1.2 (cellsL emc x.2.2.2), dtB 5 (x.2.2.2.map emd)]) (fun x => x.1 ≤ Z.length ∧ x.2.2.2.length = x.2.1 ∧ x.2.1 ≤ 17 ∧ x.2.1 ≤ x.2.2.1.2 ∧ (∀ m ∈ x.2.2.2, m.2.2.2.2.length ≤ 1025) ∧ ∀ m ∈ x.2.2.2, m.2.2.2.2.length ≤ m.2.2.2.1) (fun x => Z.length - x.1) rfl (0, K0, (A5, c5), P5.1) ⟨Nat.zero_le _, hl5, by show K0 ≤ 17; omega, hc5, em_txt P5.2.1 hL0t, P5.2.2⟩ (Sub.cons rfl (Sub.cons rfl (Sub.cons rfl (Sub.cons rfl Sub.nil)))) sub_st ?_
  clear hc5 hl5
  rintro ⟨j, K, ⟨A5, c5⟩, P⟩ ⟨hj, hPl, hK17, hc5, hPt, hPc⟩ J hJ
  dsimp only at hj hPl hK17 hc5 hPt hPc ⊢
  rcases Nat.lt_or_ge j Z.length with hjl | hjl
  · have hne := hne (by omega)
    have hat := cellsL_at (f := lmc) lmc_len Z default j hjl
    have hx := hz (Z.getD j default) (by simp [List.getD, hjl])
    generalize Z.getD j default = x at hat hx
    obtain ⟨p, A1, c1', E⟩ := x
    obtain ⟨h1, hd1, hcap1⟩ := hx
    have hat : ∀ e v, (lgc p A1 E.length c1')[e]? = some v → (cellsL lmc Z)[j * 3 + e]? = some v := hat
    have h1 : Rd w All 3 A1 E.length (cellsL emc E) := h1
    have hd1 : RDt w All (E.map emd) := hd1
    have hcap1 : ∀ m ∈ E, m.2.2.2.2.length ≤ m.2.2.2.1 := hcap1
    obtain ⟨L, hP⟩ : ∃ L, P.map emv = L := ⟨_, rfl⟩
    have hLK : L.length = K := by rw [← hP, List.length_map, hPl]
    have hLt : ∀ e ∈ L, e.2.2.length ≤ 1025 := fun e he => by
      rw [← hP] at he
      obtain ⟨m, hm, rfl⟩ := List.mem_map.1 he
      exact hPt m hm
    have hcut : cutE (P.map emv) 17 = L := by rw [hP]; exact cutE_id L 17 (by omega) hLt
    have hPk : ∀ m ∈ P, m.2.2.2.2.length ≤ 100000 := fun m hm => Nat.le_trans (hPt m hm) (by omega)
    have hLtx : ∀ e ∈ L, e.2.2.length ≤ 100000 := fun e he => Nat.le_trans (hLt e he) (by omega)
    have hesl := cutE_len (E.map emv) 80
    have hest := cutE_txt (E.map emv) 80
    obtain ⟨es, hes⟩ : ∃ l, cutE (E.map emv) 80 = l := ⟨_, rfl⟩
    rw [hes] at hesl hest
    have hestx : ∀ e ∈ es, e.2.2.length ≤ 100000 := fun e he => Nat.le_trans (hest e he) (by omega)
    obtain ⟨k2, hk2⟩ : ∃ k, es.length = k := ⟨_, rfl⟩
    obtain ⟨⟨e, last, b, r⟩, hs⟩ : ∃ x, spl a L p es = x := ⟨_, rfl⟩
    obtain ⟨hrl, hrt, hba⟩ := spl_out hs hLt hest
    obtain ⟨K7, hK7⟩ : ∃ k, r.length = k := ⟨_, rfl⟩
    obtain ⟨r0, hr⟩ : ∃ q, rightB a L = q := ⟨_, rfl⟩
    by_cases hj8 : j = 8
    · focus (refine S_seq rfl ?_; refine S_region rfl rfl ?_; refine R_take (T_decT rfl (by omega)) ?_ rfl rfl; refine R_nil ?_; refine S_seq rfl ?_; refine S_true rfl rfl ?_; refine S_skip rfl ?_; refine S_seq rfl ?_; refine S_block rfl ?_; refine S_seq rfl ?_; refine S_region rfl rfl ?_; refine R_p rfl ?_ rfl rfl; refine R_take (T_ixM (sz := 3) (q := j) rfl rfl rfl rfl rfl rfl hne hjl) ?_ rfl rfl; refine R_take (T_lda (ds := lgc p A1 E.length c1') rfl rfl rfl (Srd.old h2 (fun k _ => noOwns k)) rfl (by omega) hat) ?_ rfl rfl; (refine R_eff (E_alloca rfl pc_zero) ?_ rfl rfl; rintro _ _ ⟨b6, rfl, rfl⟩); refine R_p rfl ?_ rfl rfl; (refine R_eff0 (E_storew (cs := lgc (0, 0) none 0 0) (ds := lgc p A1 E.length c1') rfl rfl rfl rfl (lgc_one _ _ _ _) rfl) ?_ rfl; rintro _ _ rfl); refine R_nil ?_; refine S_seq rfl ?_; refine S_seq rfl ?_; refine S_region rfl rfl ?_; refine R_p rfl ?_ rfl rfl; refine R_take (T_decT rfl (by omega)) ?_ rfl rfl; refine R_nil ?_; refine S_true rfl rfl ?_; refine S_exit rfl rfl ?_; refine S_seq rfl ?_; refine S_region rfl rfl ?_; refine R_p rfl ?_ rfl rfl; refine R_nil ?_)
      exact hB _ _ _ _ _ rfl rfl fun w' hS => ⟨(), rfl, trivial, hS.sublist (List.nil_sublist _)⟩
    focus (refine S_seq rfl ?_; refine S_region rfl rfl ?_; refine R_take (T_decT rfl (by omega)) ?_ rfl rfl; refine R_nil ?_; refine S_seq rfl ?_; refine S_true rfl rfl ?_; refine S_skip rfl ?_; refine S_seq rfl ?_; refine S_block rfl ?_; refine S_seq rfl ?_; refine S_region rfl rfl ?_; refine R_p rfl ?_ rfl rfl; refine R_take (T_ixM (sz := 3) (q := j) rfl rfl rfl rfl rfl rfl hne hjl) ?_ rfl rfl; refine R_take (T_lda (ds := lgc p A1 E.length c1') rfl rfl rfl (Srd.old h2 (fun k _ => noOwns k)) rfl (by omega) hat) ?_ rfl rfl; (refine R_eff (E_alloca rfl pc_zero) ?_ rfl rfl; rintro _ _ ⟨b6, rfl, rfl⟩); refine R_p rfl ?_ rfl rfl; (refine R_eff0 (E_storew (cs := lgc (0, 0) none 0 0) (ds := lgc p A1 E.length c1') rfl rfl rfl rfl (lgc_one _ _ _ _) rfl) ?_ rfl; rintro _ _ rfl); refine R_nil ?_; refine S_seq rfl ?_; refine S_seq rfl ?_; refine S_region rfl rfl ?_; refine R_p rfl ?_ rfl rfl; refine R_take (T_decF rfl (by omega)) ?_ rfl rfl; refine R_nil ?_; refine S_false rfl rfl ?_; refine S_skip rfl ?_; refine S_seq rfl ?_; refine S_region rfl rfl ?_; refine R_take (T_loads (ds := lgc a A5 K c5) rfl rfl rfl rfl rfl) ?_ rfl rfl; (refine R_eff (E_hvG (f := 11) ⟨_, Try.func11, rfl, by kernel_rfl⟩ (fun w hS => short_S w a A5 c5 P K hPl ((Srd.row (A := A5) (n := K) (c := c5)).rd w hS) ((SDt.own (e := 5) (D := P.map emd) (by simp)).rd w hS) hPc L hcut K hLK) rfl rfl) ?_ rfl rfl; rintro _ _ ⟨⟨⟨A6, c6⟩, P6⟩, rfl, hc6, rfl⟩; dsimp only [List.cons_append, List.nil_append]; have hl6 : P6.1.length = K := (em_len P6.2.1).trans hLK); (refine R_eff (E_alloca rfl pc_zero) ?_ rfl rfl; rintro _ _ ⟨b6, rfl, rfl⟩); (refine R_eff0 (E_storew (cs := lgc (0, 0) none 0 0) (ds := lgc a A6 K c6) rfl rfl rfl rfl (lgc_one _ _ _ _) rfl) ?_ rfl; rintro _ _ rfl); refine R_nil ?_; refine S_seq rfl ?_; refine S_region rfl rfl ?_; refine R_p rfl ?_ rfl rfl; refine R_take (T_load rfl rfl rfl rfl) ?_ rfl rfl)
    ((refine R_eff (E_hvG (f := 12) ⟨_, Try.func12, rfl, by kernel_rfl⟩ (fun w hS => entries_S w A1 c1' E E.length rfl ((Srd.old h1 (fun k _ => noOwns k)).rd w hS) ((SDt.old hd1 (fun k _ => noOwns k)).rd w hS) hcap1 80 (by omega) es hes k2 hk2) rfl rfl) ?_ rfl rfl; rintro _ _ ⟨⟨⟨A8, c8⟩, P8⟩, rfl, hc8, rfl⟩; dsimp only [List.cons_append, List.nil_append]; have hl8 : P8.1.length = k2 := (em_len P8.2.1).trans hk2))
    focus (refine R_p rfl ?_ rfl rfl; refine R_nil ?_; refine S_seq rfl ?_; refine S_region rfl rfl ?_; refine R_p rfl ?_ rfl rfl; refine R_take (T_load rfl rfl rfl rfl) ?_ rfl rfl; (refine R_eff (E_hvG (f := 12) ⟨_, Try.func12, rfl, by kernel_rfl⟩ (fun w hS => entries_S w A1 c1' E E.length rfl ((Srd.old h1 (fun k _ => noOwns k)).rd w hS) ((SDt.old hd1 (fun k _ => noOwns k)).rd w hS) hcap1 80 (by omega) es hes k2 hk2) rfl rfl) ?_ rfl rfl; rintro _ _ ⟨⟨⟨A9, c9⟩, P9⟩, rfl, hc9, rfl⟩; dsimp only [List.cons_append, List.nil_append]; have hl9 : P9.1.length = k2 := (em_len P9.2.1).trans hk2); refine R_p rfl ?_ rfl rfl; refine R_nil ?_; refine S_seq rfl ?_; refine S_region rfl rfl ?_; refine R_take (T_loads (ds := lgc a A5 K c5) rfl rfl rfl rfl rfl) ?_ rfl rfl; refine R_p rfl ?_ rfl rfl; refine R_take (T_loads (ds := atc p) rfl rfl rfl rfl rfl) ?_ rfl rfl; refine R_p rfl ?_ rfl rfl; (refine R_eff (E_hvG (f := 13) ⟨_, Try.func13, rfl, by kernel_rfl⟩ (fun w hS => splice_S w a A5 c5 K P L hPl hP ((Srd.row (A := A5) (n := K) (c := c5)).rd w hS) ((SDt.own (e := 5) (D := P.map emd) (by simp)).rd w hS) p A8 c8 k2 P8.1 es hl8 P8.2.1 ((Srd.row (A := A8) (n := k2) (c := c8)).rd w hS) ((SDt.own (e := 5) (D := P8.1.map emd) (by simp)).rd w hS) hc8 (by omega) (by omega) hPk (em_txt P8.2.1 hestx) e last b r K7 hK7 hs) rfl rfl) ?_ rfl rfl; rintro _ _ ⟨⟨⟨A7, c7⟩, P7⟩, rfl, hc7, rfl⟩; dsimp only [List.cons_append, List.nil_append]; have hl7 : P7.1.length = K7 := (em_len P7.2.1).trans hK7); refine R_p rfl ?_ rfl rfl; refine R_p rfl ?_ rfl rfl; refine R_p rfl ?_ rfl rfl; refine R_p rfl ?_ rfl rfl; (refine R_eff (E_alloca rfl lg_zero) ?_ rfl rfl; rintro _ _ ⟨b10, rfl, rfl⟩); (refine R_eff0 (E_storew (cs := lgc (0, 0) none 0 0) (ds := lgc b A7 K7 c7) rfl rfl rfl rfl (lgc_one _ _ _ _) rfl) ?_ rfl; rintro _ _ rfl); refine R_p rfl ?_ rfl rfl; refine R_p rfl ?_ rfl rfl; refine R_nil ?_; refine S_seq rfl ?_; refine S_seq rfl ?_; refine S_region rfl rfl ?_; refine R_take (T_loads (ds := lgc a A5 K c5) rfl rfl rfl rfl rfl) ?_ rfl rfl; refine R_take (T_loads (ds := lgc a A6 K c6) rfl rfl rfl rfl rfl) ?_ rfl rfl; (refine R_eff (E_hv0 (f := 14) ⟨_, Try.func14, rfl, by kernel_rfl⟩ (fun w hS => sameD_kr w a a A5 A6 c5 c6 K K P P6.1 L L hPl hl6 hP P6.2.1 ((Srd.row (A := A5) (n := K) (c := c5)).rd w hS) ((Srd.row (A := A6) (n := K) (c := c6)).rd w hS) (fun m hm => dtB_bs (e := 5) (D := P.map emd) hS (by simp) (emd m) (List.mem_map.2 ⟨m, hm, rfl⟩)) (fun m hm => dtB_bs (e := 5) (D := P6.1.map emd) hS (by simp) (emd m) (List.mem_map.2 ⟨m, hm, rfl⟩)) (by omega) (by omega) true (same_tt a L)) rfl rfl (fun _ => rfl)) ?_ rfl rfl; rintro _ _ ⟨_, rfl, _, rfl⟩); refine R_take (T_not rfl) ?_ rfl rfl; refine R_p rfl ?_ rfl rfl; refine R_p rfl ?_ rfl rfl; refine R_p rfl ?_ rfl rfl; (refine R_eff (E_hv0 (f := 15) ⟨_, Try.func15, rfl, by kernel_rfl⟩ (fun w hS => sameE_kr w A8 A9 c8 c9 k2 k2 P8.1 P9.1 es es hl8 hl9 P8.2.1 P9.2.1 ((Srd.row (A := A8) (n := k2) (c := c8)).rd w hS) ((Srd.row (A := A9) (n := k2) (c := c9)).rd w hS) (fun m hm => dtB_bs (e := 5) (D := P8.1.map emd) hS (by simp) (emd m) (List.mem_map.2 ⟨m, hm, rfl⟩)) (fun m hm => dtB_bs (e := 5) (D := P9.1.map emd) hS (by simp) (emd m) (List.mem_map.2 ⟨m, hm, rfl⟩)) (by omega) (by omega) true (decide_eq_true rfl)) rfl rfl (fun _ => rfl)) ?_ rfl rfl; rintro _ _ ⟨_, rfl, _, rfl⟩); refine R_take (T_not rfl) ?_ rfl rfl; refine R_p rfl ?_ rfl rfl; refine R_nil ?_; refine S_false rfl rfl ?_; refine S_skip rfl ?_; refine S_seq rfl ?_; refine S_seq rfl ?_; refine S_region rfl rfl ?_; refine R_take (T_loads (ds := lgc a A6 K c6) rfl rfl rfl rfl rfl) ?_ rfl rfl; (refine R_eff (E_hv0 (f := 16) ⟨_, Try.func16, rfl, by kernel_rfl⟩ (fun w hS => rightD_k w a A6 c6 K P6.1 L hl6 P6.2.1 ((Srd.row (A := A6) (n := K) (c := c6)).rd w hS) (by omega) r0 hr) rfl rfl (fun _ => rfl)) ?_ rfl rfl; rintro _ _ ⟨_, rfl, _, rfl⟩); refine R_take (T_not rfl) ?_ rfl rfl; refine R_nil ?_)
    cases r0
    · rw [spl_nor hr] at hs
      injection hs with e1 e2
      injection e2 with e2 e3
      injection e3 with e3 e4
      subst e1 e2 e3 e4
      obtain rfl : K7 = 0 := by simpa using hK7.symm
      focus (refine S_true rfl rfl ?_; refine S_seq rfl ?_; refine S_region rfl rfl ?_; refine R_p rfl ?_ rfl rfl; refine R_take (T_decT rfl (by omega)) ?_ rfl rfl; refine R_p rfl ?_ rfl rfl; refine R_p rfl ?_ rfl rfl; refine R_take (T_decT rfl (by omega)) ?_ rfl rfl; refine R_p rfl ?_ rfl rfl; refine R_p rfl ?_ rfl rfl; refine R_take (T_loads (ds := lgc (0, 0) A7 0 c7) rfl rfl rfl rfl rfl) ?_ rfl rfl; refine R_take (T_build0 lg_built0) ?_ rfl rfl; (refine R_eff (E_hv0 (f := 14) ⟨_, Try.func14, rfl, by kernel_rfl⟩ (fun w hS => sameD_kr w (0, 0) (0, 0) A7 none c7 0 0 0 P7.1 [] [] [] hl7 rfl P7.2.1 rfl ((Srd.row (A := A7) (n := 0) (c := c7)).rd w hS) rd_none3 (fun m hm => dtB_bs (e := 5) (D := P7.1.map emd) hS (by simp) (emd m) (List.mem_map.2 ⟨m, hm, rfl⟩)) (fun m hm => absurd hm (by simp)) (by omega) (by omega) true (same_tt (0, 0) [])) rfl rfl (fun _ => rfl)) ?_ rfl rfl; rintro _ _ ⟨_, rfl, _, rfl⟩); refine R_take (T_decT rfl (by omega)) ?_ rfl rfl; refine R_take (T_decT rfl (by omega)) ?_ rfl rfl; refine R_nil ?_)
      exact hB _ _ _ _ _ rfl rfl fun w' hS => ⟨(), rfl, trivial, hS.sublist (List.nil_sublist _)⟩
    have hk7 := em_txt (N := 100000) P7.2.1 fun e he => Nat.le_trans (hrt e he) (by omega)
    focus (refine S_false rfl rfl ?_; refine S_skip rfl ?_; refine S_seq rfl ?_; refine S_region rfl rfl ?_; refine R_take (T_loads (ds := lgc a A6 K c6) rfl rfl rfl rfl rfl) ?_ rfl rfl; refine R_p rfl ?_ rfl rfl; refine R_take (T_loads (ds := atc p) rfl rfl rfl rfl rfl) ?_ rfl rfl; refine R_p rfl ?_ rfl rfl; (refine R_eff (E_hvG (f := 17) ⟨_, Try.func17, rfl, by kernel_rfl⟩ (fun w hS => spliceD_any w a A6 c6 K P6.1 L hl6 P6.2.1 ((Srd.row (A := A6) (n := K) (c := c6)).rd w hS) ((SDt.own (e := 5) (D := P6.1.map emd) (by simp)).rd w hS) hc6 p A9 c9 k2 P9.1 es hl9 P9.2.1 ((Srd.row (A := A9) (n := k2) (c := c9)).rd w hS) ((SDt.own (e := 5) (D := P9.1.map emd) (by simp)).rd w hS) hc9 (by omega) (em_txt P6.2.1 hLtx) (em_txt P9.2.1 hestx) hr e last b r K7 hK7 hs) rfl rfl) ?_ rfl rfl; rintro _ _ ⟨⟨⟨A11, c11⟩, P11⟩, rfl, _, rfl⟩; dsimp only [List.cons_append, List.nil_append]; have hl11 : P11.1.length = K7 := (em_len P11.2.1).trans hK7); refine R_p rfl ?_ rfl rfl; refine R_p rfl ?_ rfl rfl; refine R_p rfl ?_ rfl rfl; refine R_p rfl ?_ rfl rfl; (refine R_eff (E_alloca rfl lg_zero) ?_ rfl rfl; rintro _ _ ⟨b13, rfl, rfl⟩); (refine R_eff0 (E_storew (cs := lgc (0, 0) none 0 0) (ds := lgc b A11 K7 c11) rfl rfl rfl rfl (lgc_one _ _ _ _) rfl) ?_ rfl; rintro _ _ rfl); refine R_p rfl ?_ rfl rfl; refine R_p rfl ?_ rfl rfl; refine R_nil ?_; refine S_seq rfl ?_; refine S_seq rfl ?_; refine S_region rfl rfl ?_; refine R_p rfl ?_ rfl rfl; refine R_p rfl ?_ rfl rfl; refine R_take (T_decF rfl (by omega)) ?_ rfl rfl; refine R_p rfl ?_ rfl rfl; refine R_p rfl ?_ rfl rfl; refine R_p rfl ?_ rfl rfl; refine R_take (T_decF rfl (by omega)) ?_ rfl rfl; refine R_p rfl ?_ rfl rfl; refine R_p rfl ?_ rfl rfl; refine R_take (T_loads (ds := lgc b A7 K7 c7) rfl rfl rfl rfl rfl) ?_ rfl rfl; refine R_take (T_loads (ds := lgc b A11 K7 c11) rfl rfl rfl rfl rfl) ?_ rfl rfl; (refine R_eff (E_hv0 (f := 14) ⟨_, Try.func14, rfl, by kernel_rfl⟩ (fun w hS => sameD_kr w b b A7 A11 c7 c11 K7 K7 P7.1 P11.1 r r hl7 hl11 P7.2.1 P11.2.1 ((Srd.row (A := A7) (n := K7) (c := c7)).rd w hS) ((Srd.row (A := A11) (n := K7) (c := c11)).rd w hS) (fun m hm => dtB_bs (e := 5) (D := P7.1.map emd) hS (by simp) (emd m) (List.mem_map.2 ⟨m, hm, rfl⟩)) (fun m hm => dtB_bs (e := 5) (D := P11.1.map emd) hS (by simp) (emd m) (List.mem_map.2 ⟨m, hm, rfl⟩)) (by omega) (by omega) true (same_tt b r)) rfl rfl (fun _ => rfl)) ?_ rfl rfl; rintro _ _ ⟨_, rfl, _, rfl⟩); refine R_take (T_not rfl) ?_ rfl rfl; refine R_p rfl ?_ rfl rfl; refine R_nil ?_; refine S_false rfl rfl ?_; refine S_skip rfl ?_; refine S_seq rfl ?_; refine S_region rfl rfl ?_; refine R_take (T_loads (ds := lgc b A7 K7 c7) rfl rfl rfl rfl rfl) ?_ rfl rfl; (refine R_eff (E_dr2 (f := 18) (A1 := row 44 3 A7 K7 c7 (cellsL emc P7.1)) (A2 := dtB 5 (P7.1.map emd)) ⟨_, Try.func18, rfl, by kernel_rfl⟩ (fun w _ hS => spoil_any w b A7 c7 K7 P7.1 hl7 (by omega) hk7 hS) rfl rfl) ?_ rfl rfl; rintro _ _ ⟨_, rfl, _, rfl⟩); refine R_nil ?_; refine S_seq rfl ?_; refine S_seq rfl ?_; refine S_region rfl rfl ?_; refine R_take (T_loads (ds := lgc a A5 K c5) rfl rfl rfl rfl rfl) ?_ rfl rfl; refine R_take (T_loads (ds := lgc a A6 K c6) rfl rfl rfl rfl rfl) ?_ rfl rfl; (refine R_eff (E_hv0 (f := 14) ⟨_, Try.func14, rfl, by kernel_rfl⟩ (fun w hS => sameD_kr w a a A5 A6 c5 c6 K K P P6.1 L L hPl hl6 hP P6.2.1 ((Srd.row (A := A5) (n := K) (c := c5)).rd w hS) ((Srd.row (A := A6) (n := K) (c := c6)).rd w hS) (fun m hm => dtB_bs (e := 5) (D := P.map emd) hS (by simp) (emd m) (List.mem_map.2 ⟨m, hm, rfl⟩)) (fun m hm => dtB_bs (e := 5) (D := P6.1.map emd) hS (by simp) (emd m) (List.mem_map.2 ⟨m, hm, rfl⟩)) (by omega) (by omega) true (same_tt a L)) rfl rfl (fun _ => rfl)) ?_ rfl rfl; rintro _ _ ⟨_, rfl, _, rfl⟩); refine R_take (T_not rfl) ?_ rfl rfl; refine R_p rfl ?_ rfl rfl; refine R_p rfl ?_ rfl rfl; refine R_p rfl ?_ rfl rfl; (refine R_eff (E_hv0 (f := 15) ⟨_, Try.func15, rfl, by kernel_rfl⟩ (fun w hS => sameE_kr w A8 A9 c8 c9 k2 k2 P8.1 P9.1 es es hl8 hl9 P8.2.1 P9.2.1 ((Srd.row (A := A8) (n := k2) (c := c8)).rd w hS) ((Srd.row (A := A9) (n := k2) (c := c9)).rd w hS) (fun m hm => dtB_bs (e := 5) (D := P8.1.map emd) hS (by simp) (emd m) (List.mem_map.2 ⟨m, hm, rfl⟩)) (fun m hm => dtB_bs (e := 5) (D := P9.1.map emd) hS (by simp) (emd m) (List.mem_map.2 ⟨m, hm, rfl⟩)) (by omega) (by omega) true (decide_eq_true rfl)) rfl rfl (fun _ => rfl)) ?_ rfl rfl; rintro _ _ ⟨_, rfl, _, rfl⟩); refine R_take (T_not rfl) ?_ rfl rfl; refine R_p rfl ?_ rfl rfl; refine R_nil ?_; refine S_false rfl rfl ?_; refine S_skip rfl ?_; refine S_seq rfl ?_; refine S_region rfl rfl ?_; refine R_p rfl ?_ rfl rfl; refine R_p rfl ?_ rfl rfl; refine R_nil ?_)
    by_cases he : e = 0
    · have hba := hba he
      subst b
      have hcut7 : cutE (P11.1.map emv) 17 = r := by rw [P11.2.1]; exact cutE_id r 17 (by omega) hrt
      focus ((refine S_if rfl rfl (fun hs => ?_) (fun hs => ?_)); refine S_region rfl rfl ?_; refine R_take (T_loads (ds := lgc a A11 K7 c11) rfl rfl rfl rfl rfl) ?_ rfl rfl; (refine R_eff (E_hvG (f := 11) ⟨_, Try.func11, rfl, by kernel_rfl⟩ (fun w hS => short_S w a A11 c11 P11.1 K7 hl11 ((Srd.row (A := A11) (n := K7) (c := c11)).rd w hS) ((SDt.own (e := 5) (D := P11.1.map emd) (by simp)).rd w hS) P11.2.2 r hcut7 K7 hK7) rfl rfl) ?_ rfl rfl; rintro _ _ ⟨⟨⟨A12, c12⟩, P12⟩, rfl, hc12, rfl⟩; dsimp only [List.cons_append, List.nil_append]; have hl12 : P12.1.length = K7 := (em_len P12.2.1).trans hK7); (refine R_eff0 (E_storew (cs := lgc a A5 K c5) (ds := lgc a A12 K7 c12) rfl rfl rfl rfl (lgc_one _ _ _ _) rfl) ?_ rfl; rintro _ _ rfl); refine R_nil ?_; refine RS_blk ?_; refine S_region rfl rfl ?_; refine R_take (T_addN rfl rfl (by unfold fits; omega)) ?_ rfl rfl; refine R_p rfl ?_ rfl rfl; refine R_nil ?_; rotate_left; refine S_skip rfl ?_; refine RS_blk ?_; refine S_region rfl rfl ?_; refine R_take (T_addN rfl rfl (by unfold fits; omega)) ?_ rfl rfl; refine R_p rfl ?_ rfl rfl; refine R_nil ?_; rotate_left)
      all_goals (try (exfalso; omega))
      exact hJ (j + 1, K7, (A12, c12), P12.1) _ _ ⟨by show j + 1 ≤ _; omega, hl12, by show K7 ≤ 17; omega, hc12, em_txt P12.2.1 hrt, P12.2.2⟩ (Sub.cons rfl (Sub.cons rfl (Sub.cons rfl (Sub.cons rfl Sub.nil)))) sub_st (by show Z.length - (j + 1) < _; omega)
    · skip
      focus ((refine S_if rfl rfl (fun hs => ?_) (fun hs => ?_)); refine S_region rfl rfl ?_; rotate_left; refine S_skip rfl ?_; refine RS_blk ?_; refine S_region rfl rfl ?_; refine R_take (T_addN rfl rfl (by unfold fits; omega)) ?_ rfl rfl; refine R_p rfl ?_ rfl rfl; refine R_nil ?_; rotate_left)
      all_goals (try (exfalso; omega))
      exact hJ (j + 1, K, (A5, c5), P) _ _ ⟨by show j + 1 ≤ _; omega, hPl, hK17, hc5, hPt, hPc⟩ (Sub.cons rfl (Sub.cons rfl (Sub.cons rfl (Sub.cons rfl Sub.nil)))) sub_st (by show Z.length - (j + 1) < _; omega)
  · focus (refine S_seq rfl ?_; refine S_region rfl rfl ?_; refine R_take (T_decF rfl (by omega)) ?_ rfl rfl; refine R_nil ?_; refine S_seq rfl ?_; refine S_false rfl rfl ?_; refine S_exit rfl rfl ?_; refine S_seq rfl ?_; refine S_region rfl rfl ?_; refine R_p rfl ?_ rfl rfl; refine R_nil ?_)
    exact hB _ _ _ _ _ rfl rfl fun w' hS => ⟨(), rfl, trivial, hS.sublist (List.nil_sublist _)⟩
set_option maxRecDepth 100000 in
theorem open_pieces {H : Type} {enc : TypeId × Value → H} {W : World} {r : Reach} {base : Nat} {v : Value} {d : DataW H} {p : List MemPlace} (hv : Value.okWide Try.prog W r base 28 v) (h : DataW.Trod enc Try.prog W 0 (fun _ => true) true 28 v d p) :
    ∃ (A : Option Addr) (c : Nat) (Z : List Lm), v = .slice A Z.length c ∧ Rd W All 3 A Z.length (cellsL lmc Z) ∧ (∀ q ∈ Z, LmR W q) ∧ Z.length ≤ maxLen := by
  obtain ⟨a0, len0, cap0, rfl⟩ := okWide_slice Try.underlying28 hv
  obtain ⟨A, n, c, xs, hcs, h1, h2, h3, h4⟩ := (Op_.of_trod h).slice Try.underlying28 (size := 3) (by kernel_rfl)
  simp [Value.cells] at hcs
  obtain ⟨rfl, rfl, rfl⟩ := hcs
  obtain ⟨Z, hZ, rfl, hall⟩ := rows_of (n := 0) (size := 3) (f := lmc) lmc_len (fun q : Lm => LmR W q) _ _ h3.1 fun i hi => by
    obtain ⟨a, A, c, Q, hc, k1, k2, _, k3, _⟩ := op_piece (h4 i hi)
    exact ⟨(a, A, c, Q), hc, k1, k2, fun m hm => (k3 m hm).1⟩
  subst hZ
  exact ⟨_, _, Z, rfl, h3, hall, by omega⟩
set_option maxRecDepth 100000 in
theorem LogSplices_open {H : Type} {enc : TypeId × Value → H} (W : World) {r : Reach} (base : Nat) (v0 v1 : Value) {d0 d1 : DataW H} {p0 p1 : List MemPlace}
    (hv0 : Value.okWide Try.prog W r base 27 v0) (hv1 : Value.okWide Try.prog W r base 28 v1)
    (h0 : DataW.Trod enc Try.prog W 0 (fun _ => true) true 27 v0 d0 p0) (h1 : DataW.Trod enc Try.prog W 0 (fun _ => true) true 28 v1 d1 p1) :
    Calls Try.prog 3 #[v0, v1] W fun e w' => e = .returned (.bool true) ∧ Kp All W w' := by
  obtain ⟨a, A, c, Q, rfl, g1, g2, _, g3, _, g4⟩ := open_log hv0 h0
  obtain ⟨A2, c2', Z, rfl, k1, k2, k3⟩ := open_pieces hv1 h1
  exact (splices_any W a A c Q g1 g2 (fun m hm => (g3 m hm).1) A2 c2' Z k1 k2 k3).pure12
end Go.Proofs.Ytkdpfnaaopimoaa
