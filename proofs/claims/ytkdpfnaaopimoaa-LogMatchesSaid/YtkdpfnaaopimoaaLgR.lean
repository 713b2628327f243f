/- The statement LogTells. -/
import Derived.Test.YtkdpfnaaopimoaaLgQ
namespace Go.Proofs.Ytkdpfnaaopimoaa
open Go.RowKit Go.ChangeShapes Go.WideShapes Go.ChangeAt
open Asn (pt row rb)
set_option linter.unusedVariables false
set_option linter.unusedSimpArgs false
--@use N

theorem bxx (b : Bool) : (b != b) = false := by cases b <;> rfl
theorem atc_len (p : At) : (atc p).length = 2 := rfl
theorem row_bs {w0 w : World} {M : Nat → Prop} {H : List Asn} {e : TypeId} {A : Option Addr} {n c : Nat} {l : List UInt8} (hS : St w0 M H w) (hm : row e 1 A n c (l.map bv) ∈ H) (hl : l.length = n) : Bs w All A n c l := by
  have h1 := hS.at_ hm
  have hf := row_facts h1
  exact ⟨hl.symm, hf.1, hf.2.1, (Rd.of_own h1).more fun _ _ => trivial⟩
theorem beq_k (w : World) (A A2 : Option Addr) (n c n2 c2 : Nat) (l : List UInt8) (h : Bs w All A n c l) (h2 : Bs w All A2 n2 c2 l) :
    Gives Try.prog 37 [.slice A n c, .slice A2 n2 c2] [] w (X := Unit) (fun _ => .bool true) (fun _ => True) (fun _ => []) := by
  have := beq_any w A A2 n c n2 c2 l l h h2
  rwa [decide_eq_true rfl] at this
theorem lastF_p (w : World) (a : At) (A : Option Addr) (c k : Nat) (Q : List Em) (l : List En) (hk : Q.length = k) (hl : Q.map emv = l) (h : Rd w All 3 A k (cellsL emc Q)) (hn : k ≤ 100000) (p : At) (hp : (if rightB a l = true then lastA a l else (0, 0)) = p) :
    Gives Try.prog 24 [.agg (lgc a A k c).toArray] [] w (X := Unit) (fun _ => .agg (atc p).toArray) (fun _ => True) (fun _ => []) := by
  subst hk
  subst hl
  subst hp
  exact lastF_any w a A c Q h hn
theorem frm_out {a : At} {l : List En} {idx : Nat} {n : Int} {e : Int} {p : At} {r : List En} (h : frm a l idx n = (e, p, r)) : r.length ≤ l.length ∧ ∀ x ∈ r, x ∈ l := by
  unfold frm at h
  split at h
  · split at h
    · injection h with _ e2
      injection e2 with _ e3
      subst e3
      exact ⟨Nat.zero_le _, fun x hx => absurd hx (by simp)⟩
    · split at h
      · injection h with _ e2
        injection e2 with _ e3
        subst e3
        exact ⟨Nat.zero_le _, fun x hx => absurd hx (by simp)⟩
      · injection h with _ e2
        injection e2 with _ e3
        subst e3
        exact ⟨by rw [List.length_take, List.length_drop]; omega, fun x hx => List.mem_of_mem_drop (List.mem_of_mem_take hx)⟩
  · injection h with _ e2
    injection e2 with _ e3
    subst e3
    exact ⟨Nat.zero_le _, fun x hx => absurd hx (by simp)⟩
theorem conf_out {a : At} {l : List En} {idx i : Nat} {bs : List UInt8} {q : Bool} (h : confR a l idx = (i, bs, q)) {N : Nat} (ht : ∀ x ∈ l, x.2.2.length ≤ N) : bs.length ≤ N := by
  unfold confR at h
  split at h
  · split at h
    · injection h with _ e2
      injection e2 with e2 _
      subst e2
      exact Nat.zero_le _
    · rename_i h0
      injection h with _ e2
      injection e2 with e2 _
      subst e2
      have := cfN_le a l idx l.length
      exact ht _ (by simp [List.getD, show cfN a l idx l.length - 1 < l.length by omega])
  · injection h with _ e2
    injection e2 with e2 _
    subst e2
    exact Nat.zero_le _
set_option maxRecDepth 100000 in
set_option maxHeartbeats 4000000 in
theorem tells_any (w : World) (a : At) (A : Option Addr) (c : Nat) (Q : List Em) (h : Rd w All 3 A Q.length (cellsL emc Q)) (hd : RDt w All (Q.map emd)) (hcap : ∀ m ∈ Q, m.2.2.2.2.length ≤ m.2.2.2.1) (A2 : Option Addr) (c2' : Nat) (Z : List At) (h2 : Rd w All 2 A2 Z.length (cellsL atc Z)) (hz : ∀ q ∈ Z, q.1 < 18446744073709551616) (hZl : Z.length ≤ maxLen) (n : Int) :
    Gives Try.prog 9 [.agg (lgc a A Q.length c).toArray, .slice A2 Z.length c2', zi n] [] w (X := Unit) (fun _ => .bool true) (fun _ => True) (fun _ => []) := by
  refine gives_S Try.func9 rfl Try.ntmps9 Try.results9 (by simp) (St.enter w) (fun B hB => ?_)
  have hZm : Z.length ≤ 9223372036854775807 := hZl
  have hne : 0 < Z.length → A2 ≠ none := fun h0 => by obtain ⟨ad, rfl, _⟩ := h2.2 (by omega); simp
  have hLl := cutE_len (Q.map emv) 17
  have hLt := cutE_txt (Q.map emv) 17
  obtain ⟨L, hL⟩ : ∃ L, cutE (Q.map emv) 17 = L := ⟨_, rfl⟩
  rw [hL] at hLl hLt
  have hcut := cutE_id L 17 hLl hLt
  have hLtx : ∀ e ∈ L, e.2.2.length ≤ 100000 := fun e he => Nat.le_trans (hLt e he) (by omega)
  obtain ⟨K, hK⟩ : ∃ K, L.length = K := ⟨_, rfl⟩
  obtain ⟨r0, hr⟩ : ∃ q, rightB a L = q := ⟨_, rfl⟩
  obtain ⟨p0, hp0⟩ : ∃ p, (if rightB a L = true then lastA a L else (0, 0)) = p := ⟨_, rfl⟩
  have hpp0 : decide (p0 = p0) = true := decide_eq_true rfl
  focus (refine S_seq rfl ?_; refine S_region rfl rfl ?_; (refine R_eff (E_boxa (cs := lgc a A Q.length c) rfl) ?_ rfl rfl; rintro _ _ ⟨b3, rfl, rfl⟩); refine R_p rfl ?_ rfl rfl; refine R_nil ?_; refine S_seq rfl ?_; refine S_seq rfl ?_; refine S_region rfl rfl ?_; (refine R_eff (E_hv0 (f := 10) ⟨_, Try.func10, rfl, by kernel_rfl⟩ (fun w hS => wakes12_any w) rfl rfl (fun _ => rfl)) ?_ rfl rfl; rintro _ _ ⟨_, rfl, _, rfl⟩); refine R_take (T_not rfl) ?_ rfl rfl; refine R_nil ?_; refine S_false rfl rfl ?_; refine S_skip rfl ?_; refine S_seq rfl ?_; refine S_region rfl rfl ?_; refine R_take (T_loads (ds := lgc a A Q.length c) rfl rfl rfl rfl rfl) ?_ rfl rfl; (refine R_eff (E_hvG (f := 11) ⟨_, Try.func11, rfl, by kernel_rfl⟩ (fun w hS => short_S w a A c Q Q.length rfl ((Srd.old h (fun k _ => noOwns k)).rd w hS) ((SDt.old hd (fun k _ => noOwns k)).rd w hS) hcap L hL K hK) rfl rfl) ?_ rfl rfl; rintro _ _ ⟨⟨⟨A5, c5⟩, P5⟩, rfl, hc5, rfl⟩; dsimp only [List.cons_append, List.nil_append]; have hl5 : P5.1.length = K := (em_len P5.2.1).trans hK); (refine R_eff0 (E_storew (cs := lgc a A Q.length c) (ds := lgc a A5 K c5) rfl rfl rfl rfl (lgc_one _ _ _ _) rfl) ?_ rfl; rintro _ _ rfl); refine R_nil ?_; refine S_seq rfl ?_; refine S_region rfl rfl ?_; refine R_take (T_loads (ds := lgc a A5 K c5) rfl rfl rfl rfl rfl) ?_ rfl rfl; (refine R_eff (E_hvG (f := 11) ⟨_, Try.func11, rfl, by kernel_rfl⟩ (fun w hS => short_S w a A5 c5 P5.1 K hl5 ((Srd.row (A := A5) (n := K) (c := c5)).rd w hS) ((SDt.own (e := 5) (D := P5.1.map emd) (by simp)).rd w hS) P5.2.2 L (by rw [P5.2.1]; exact hcut) K hK) rfl rfl) ?_ rfl rfl; rintro _ _ ⟨⟨⟨A6, c6⟩, P6⟩, rfl, hc6, rfl⟩; dsimp only [List.cons_append, List.nil_append]; have hl6 : P6.1.length = K := (em_len P6.2.1).trans hK); (refine R_eff (E_alloca rfl lg_zero) ?_ rfl rfl; rintro _ _ ⟨b7, rfl, rfl⟩); (refine R_eff0 (E_storew (cs := lgc (0, 0) none 0 0) (ds := lgc a A6 K c6) rfl rfl rfl rfl (lgc_one _ _ _ _) rfl) ?_ rfl; rintro _ _ rfl); refine R_nil ?_; refine S_seq rfl ?_; refine S_region rfl rfl ?_; refine R_take (T_loads (ds := lgc a A6 K c6) rfl rfl rfl rfl rfl) ?_ rfl rfl; (refine R_eff (E_hv0 (f := 16) ⟨_, Try.func16, rfl, by kernel_rfl⟩ (fun w hS => rightD_k w a A6 c6 K P6.1 L hl6 P6.2.1 ((Srd.row (A := A6) (n := K) (c := c6)).rd w hS) (by omega) r0 hr) rfl rfl (fun _ => rfl)) ?_ rfl rfl; rintro _ _ ⟨_, rfl, _, rfl⟩); refine R_p rfl ?_ rfl rfl; refine R_nil ?_; refine S_seq rfl ?_; refine S_region rfl rfl ?_; refine R_take (T_build0 at_built0) ?_ rfl rfl; (refine R_eff (E_alloca rfl at_zero) ?_ rfl rfl; rintro _ _ ⟨b9, rfl, rfl⟩); (refine R_eff0 (E_storew (cs := atc (0, 0)) (ds := atc (0, 0)) rfl rfl rfl rfl (atc_one _) rfl) ?_ rfl; rintro _ _ rfl); refine R_nil ?_; refine S_seq rfl ?_; refine S_seq rfl ?_; refine S_region rfl rfl ?_; refine R_p rfl ?_ rfl rfl; refine R_nil ?_)
  have hPk5 := em_txt (N := 100000) P5.2.1 hLtx
  have hPk6 := em_txt (N := 100000) P6.2.1 hLtx
  have hmain : RS Try.prog B 218 w (owns []) [.code (c1 (c1 (c2 (c2 (c2 (c2 (c2 (c2 (c2 (cbody Try.f9)))))))))), .code (c2 (c1 (c2 (c2 (c2 (c2 (c2 (c2 (c2 (cbody Try.f9)))))))))), .code (c2 (c2 (c2 (c2 (c2 (c2 (c2 (c2 (cbody Try.f9)))))))))] [(1, .slice A2 Z.length c2'), (2, zi n), (3, .pointer (some ⟨b3, 0, none⟩)), (7, .pointer (some ⟨b7, 0, none⟩)), (8, .bool r0), (9, .pointer (some ⟨b9, 0, none⟩))] [pt b3 27 (lgc a A5 K c5), row 44 3 A5 K c5 (cellsL emc P5.1), dtB 5 (P5.1.map emd), pt b7 27 (lgc a A6 K c6), row 44 3 A6 K c6 (cellsL emc P6.1), dtB 5 (P6.1.map emd), pt b9 24 (atc p0)] := by
    skip
    refine S_draw ([pt b3 27 (lgc a A5 K c5), pt b9 24 (atc p0)]) sub_st (by kernel_rfl) rfl (by kernel_rfl) (by kernel_rfl : _ = 4) ?_
    refine D_take 0 rfl (T_loads (ds := lgc a A5 K c5) rfl rfl rfl rfl rfl) ?_ rfl rfl (by kernel_rfl) (by kernel_rfl)
    refine D_take 2 rfl (T_loads (ds := atc p0) rfl rfl rfl rfl rfl) ?_ rfl rfl (by kernel_rfl) (by kernel_rfl)
    refine D_one 1 rfl (E_hv0 (f := 24) ⟨_, Try.func24, rfl, by kernel_rfl⟩ (fun w hS => lastF_p w a A5 c5 K P5.1 L hl5 P5.2.1 ((Srd.row (A := A5) (n := K) (c := c5)).rd w hS) (by omega) p0 hp0) rfl rfl (fun _ => rfl)) ?_ rfl rfl (by kernel_rfl)
    rintro _ _ ⟨_, rfl, _, rfl⟩
    refine Nx_same sub_st ?_
    refine D_take 3 rfl (T_neAt (a := p0) (b := p0) rfl rfl hpp0) ?_ rfl rfl (by kernel_rfl) (by kernel_rfl)
    refine D_done ?_ (by kernel_rfl)
    skip
    focus (refine S_false rfl rfl ?_; refine S_skip rfl ?_; refine S_seq rfl ?_; refine S_seq rfl ?_; refine S_region rfl rfl ?_; refine R_p rfl ?_ rfl rfl; refine R_p rfl ?_ rfl rfl; refine R_p rfl ?_ rfl rfl; refine R_nil ?_; refine S_block rfl ?_)
    refine S_loop (X := Nat) (fun j => [(1, .slice A2 Z.length c2'), (2, zi n), (3, .pointer (some ⟨b3, 0, none⟩)), (7, .pointer (some ⟨b7, 0, none⟩)), (8, .bool r0), (46, .slice A2 Z.length c2'), (47, .int .i64 (Z.length : Int)), (48, .int .i64 (j : Int))]) (fun j => [pt b3 27 (lgc a A5 K c5), row 44 3 A5 K c5 (cellsL emc P5.1), dtB 5 (P5.1.map emd), pt b7 27 (lgc a A6 K c6), row 44 3 A6 K c6 (cellsL emc P6.1), dtB 5 (P6.1.map emd)]) (fun j => j ≤ Z.length) (fun j => Z.length - j) rfl 0 (Nat.zero_le _) (Sub.cons rfl (Sub.cons rfl (Sub.cons rfl (Sub.cons rfl (Sub.cons rfl (Sub.cons rfl (Sub.cons rfl (Sub.cons rfl Sub.nil)))))))) sub_st ?_
    rintro j hj J hJ
    rcases Nat.lt_or_ge j Z.length with hjl | hjl
    · have hne := hne (by omega)
      have h0l : 0 < Z.length := by omega
      have hat := cellsL_at (f := atc) atc_len Z default j hjl
      have hat0 := cellsL_at (f := atc) atc_len Z default 0 h0l
      have hqi := hz (Z.getD j default) (by simp [List.getD, hjl])
      generalize Z.getD j default = q at hat hqi
      generalize Z.getD 0 default = y at hat0
      obtain ⟨qi, qu⟩ := q
      have hqi : qi ≤ 18446744073709551615 := by have : qi < 18446744073709551616 := hqi; omega
      by_cases hj12 : j = 12
      · focus (refine S_seq rfl ?_; refine S_region rfl rfl ?_; refine R_take (T_decT rfl (by omega)) ?_ rfl rfl; refine R_nil ?_; refine S_seq rfl ?_; refine S_true rfl rfl ?_; refine S_skip rfl ?_; refine S_seq rfl ?_; refine S_block rfl ?_; refine S_seq rfl ?_; refine S_region rfl rfl ?_; refine R_p rfl ?_ rfl rfl; refine R_take (T_ixM (sz := 2) (q := j) rfl rfl rfl rfl rfl rfl hne hjl) ?_ rfl rfl; refine R_take (T_lda (ds := atc (qi, qu)) rfl rfl rfl (Srd.old h2 (fun k _ => noOwns k)) rfl (by omega) hat) ?_ rfl rfl; (refine R_eff (E_alloca rfl at_zero) ?_ rfl rfl; rintro _ _ ⟨b11, rfl, rfl⟩); refine R_p rfl ?_ rfl rfl; (refine R_eff0 (E_storew (cs := atc (0, 0)) (ds := atc (qi, qu)) rfl rfl rfl rfl (atc_one _) rfl) ?_ rfl; rintro _ _ rfl); refine R_nil ?_; refine S_seq rfl ?_; refine S_seq rfl ?_; refine S_region rfl rfl ?_; refine R_p rfl ?_ rfl rfl; refine R_take (T_decT rfl (by omega)) ?_ rfl rfl; refine R_nil ?_; refine S_true rfl rfl ?_; refine S_exit rfl rfl ?_; refine S_seq rfl ?_; refine S_region rfl rfl ?_; refine R_p rfl ?_ rfl rfl; refine R_nil ?_)
        exact hB _ _ _ _ _ rfl rfl fun w' hS => ⟨(), rfl, trivial, hS.sublist (List.nil_sublist _)⟩
      focus (refine S_seq rfl ?_; refine S_region rfl rfl ?_; refine R_take (T_decT rfl (by omega)) ?_ rfl rfl; refine R_nil ?_; refine S_seq rfl ?_; refine S_true rfl rfl ?_; refine S_skip rfl ?_; refine S_seq rfl ?_; refine S_block rfl ?_; refine S_seq rfl ?_; refine S_region rfl rfl ?_; refine R_p rfl ?_ rfl rfl; refine R_take (T_ixM (sz := 2) (q := j) rfl rfl rfl rfl rfl rfl hne hjl) ?_ rfl rfl; refine R_take (T_lda (ds := atc (qi, qu)) rfl rfl rfl (Srd.old h2 (fun k _ => noOwns k)) rfl (by omega) hat) ?_ rfl rfl; (refine R_eff (E_alloca rfl at_zero) ?_ rfl rfl; rintro _ _ ⟨b11, rfl, rfl⟩); refine R_p rfl ?_ rfl rfl; (refine R_eff0 (E_storew (cs := atc (0, 0)) (ds := atc (qi, qu)) rfl rfl rfl rfl (atc_one _) rfl) ?_ rfl; rintro _ _ rfl); refine R_nil ?_; refine S_seq rfl ?_; refine S_seq rfl ?_; refine S_region rfl rfl ?_; refine R_p rfl ?_ rfl rfl; refine R_take (T_decF rfl (by omega)) ?_ rfl rfl; refine R_nil ?_; refine S_false rfl rfl ?_; refine S_skip rfl ?_; refine S_seq rfl ?_; refine S_region rfl rfl ?_; refine R_take (T_loads (ds := lgc a A5 K c5) rfl rfl rfl rfl rfl) ?_ rfl rfl; refine R_p rfl ?_ rfl rfl; refine R_take (T_load rfl rfl rfl rfl) ?_ rfl rfl)
      cases r0
      · have hsT : termR a L qi = (0, false) := by rw [termR, hr, if_neg Bool.false_ne_true]
        have hsH : (rightB a L && hasB a L (qi, qu)) = false := by rw [hr]; rfl
        have hsF : frm a L qi n = (220, (0, 0), []) := by rw [frm, hr, if_neg Bool.false_ne_true]
        have hsC : confR a L qi = (0, [], false) := by rw [confR, hr, if_neg Bool.false_ne_true]
        have h00 : decide (((0, 0) : At) = (0, 0)) = true := decide_eq_true rfl
        focus ((refine R_eff (E_hv0 (f := 25) ⟨_, Try.func25, rfl, by kernel_rfl⟩ (fun w hS => term_k w a A5 c5 K P5.1 L hl5 P5.2.1 ((Srd.row (A := A5) (n := K) (c := c5)).rd w hS) (by omega) qi (0, false) hsT) rfl rfl (fun _ => rfl)) ?_ rfl rfl; rintro _ _ ⟨_, rfl, _, rfl⟩); refine R_p rfl ?_ rfl rfl; refine R_p rfl ?_ rfl rfl; refine R_p rfl ?_ rfl rfl; refine R_p rfl ?_ rfl rfl; refine R_p rfl ?_ rfl rfl; refine R_nil ?_; refine S_seq rfl ?_; refine S_region rfl rfl ?_; refine R_take (T_loads (ds := lgc a A5 K c5) rfl rfl rfl rfl rfl) ?_ rfl rfl; refine R_take (T_loads (ds := atc (qi, qu)) rfl rfl rfl rfl rfl) ?_ rfl rfl; (refine R_eff (E_hv0 (f := 29) ⟨_, Try.func29, rfl, by kernel_rfl⟩ (fun w hS => hasF_k w a A5 c5 K P5.1 L hl5 P5.2.1 ((Srd.row (A := A5) (n := K) (c := c5)).rd w hS) (by omega) (qi, qu) false hsH) rfl rfl (fun _ => rfl)) ?_ rfl rfl; rintro _ _ ⟨_, rfl, _, rfl⟩); refine R_p rfl ?_ rfl rfl; refine R_nil ?_; refine S_seq rfl ?_; refine S_region rfl rfl ?_; refine R_take (T_loads (ds := lgc a A5 K c5) rfl rfl rfl rfl rfl) ?_ rfl rfl; refine R_p rfl ?_ rfl rfl; refine R_take (T_load rfl rfl rfl rfl) ?_ rfl rfl; refine R_p rfl ?_ rfl rfl; (refine R_eff (E_hvG (f := 26) ⟨_, Try.func26, rfl, by kernel_rfl⟩ (fun w hS => from_S w a A5 c5 K P5.1 L hl5 P5.2.1 ((Srd.row (A := A5) (n := K) (c := c5)).rd w hS) ((SDt.own (e := 5) (D := P5.1.map emd) (by simp)).rd w hS) hc5 (by omega) hPk5 qi hqi n 220 (0, 0) [] 0 rfl hsF) rfl rfl) ?_ rfl rfl; rintro _ _ ⟨⟨⟨A16, c16⟩, P16⟩, rfl, _, rfl⟩; dsimp only [List.cons_append, List.nil_append]; have hl16 : P16.1.length = 0 := (em_len P16.2.1).trans rfl); refine R_p rfl ?_ rfl rfl; refine R_p rfl ?_ rfl rfl; refine R_p rfl ?_ rfl rfl; refine R_p rfl ?_ rfl rfl; (refine R_eff (E_alloca rfl at_zero) ?_ rfl rfl; rintro _ _ ⟨b15, rfl, rfl⟩); (refine R_eff0 (E_storew (cs := atc (0, 0)) (ds := atc (0, 0)) rfl rfl rfl rfl (atc_one _) rfl) ?_ rfl; rintro _ _ rfl); refine R_p rfl ?_ rfl rfl; refine R_p rfl ?_ rfl rfl; refine R_nil ?_; refine S_seq rfl ?_; refine S_region rfl rfl ?_; refine R_take (T_loads (ds := lgc a A5 K c5) rfl rfl rfl rfl rfl) ?_ rfl rfl; refine R_p rfl ?_ rfl rfl; refine R_take (T_load rfl rfl rfl rfl) ?_ rfl rfl; (refine R_eff (E_hvG (f := 30) ⟨_, Try.func30, rfl, by kernel_rfl⟩ (fun w hS => confP_any w a A5 c5 K P5.1 L hl5 P5.2.1 ((Srd.row (A := A5) (n := K) (c := c5)).rd w hS) ((SDt.own (e := 5) (D := P5.1.map emd) (by simp)).rd w hS) (by omega) hPk5 qi 0 [] false 0 rfl hsC) rfl rfl) ?_ rfl rfl; rintro _ _ ⟨⟨A19, c19⟩, rfl, _, rfl⟩; dsimp only [List.cons_append, List.nil_append]); refine R_p rfl ?_ rfl rfl; refine R_p rfl ?_ rfl rfl; refine R_p rfl ?_ rfl rfl; refine R_p rfl ?_ rfl rfl; refine R_p rfl ?_ rfl rfl; refine R_p rfl ?_ rfl rfl; refine R_p rfl ?_ rfl rfl; refine R_nil ?_; refine S_seq rfl ?_; refine S_seq rfl ?_)
        refine S_draw ([pt b11 24 (atc (qi, qu))]) sub_st (by kernel_rfl) rfl (by kernel_rfl) (by kernel_rfl : _ = 11) ?_
        refine D_take 0 rfl (T_loads (ds := atc (qi, qu)) rfl rfl rfl rfl rfl) ?_ rfl rfl (by kernel_rfl) (by kernel_rfl)
        refine D_take 1 rfl (pev_ok rfl) ?_ rfl rfl (by kernel_rfl) (by kernel_rfl)
        refine D_take 2 rfl (T_ixM (sz := 2) (q := 0) rfl rfl rfl rfl rfl rfl hne h0l) ?_ rfl rfl (by kernel_rfl) (by kernel_rfl)
        refine D_take 3 rfl (T_lda (ds := atc y) rfl rfl rfl (Srd.old h2 (fun k _ => noOwns k)) rfl (by omega) hat0) ?_ rfl rfl (by kernel_rfl) (by kernel_rfl)
        refine D_take 5 rfl (T_loads (ds := atc (qi, qu)) rfl rfl rfl rfl rfl) ?_ rfl rfl (by kernel_rfl) (by kernel_rfl)
        refine D_take 6 rfl (pev_ok rfl) ?_ rfl rfl (by kernel_rfl) (by kernel_rfl)
        refine D_take 7 rfl (T_ixM (sz := 2) (q := 0) rfl rfl rfl rfl rfl rfl hne h0l) ?_ rfl rfl (by kernel_rfl) (by kernel_rfl)
        refine D_take 8 rfl (T_lda (ds := atc y) rfl rfl rfl (Srd.old h2 (fun k _ => noOwns k)) rfl (by omega) hat0) ?_ rfl rfl (by kernel_rfl) (by kernel_rfl)
        refine D_one 4 rfl (E_hv0 (f := 31) ⟨_, Try.func31, rfl, by kernel_rfl⟩ (fun w hS => newer_any w (qi, qu) y) rfl rfl (fun _ => rfl)) ?_ rfl rfl (by kernel_rfl)
        rintro _ _ ⟨_, rfl, _, rfl⟩
        refine Nx_same sub_st ?_
        refine D_one 9 rfl (E_hv0 (f := 32) ⟨_, Try.func32, rfl, by kernel_rfl⟩ (fun w hS => newerD_any w (qi, qu) y) rfl rfl (fun _ => rfl)) ?_ rfl rfl (by kernel_rfl)
        rintro _ _ ⟨_, rfl, _, rfl⟩
        refine Nx_same sub_st ?_
        refine D_take 10 rfl (T_bnq rfl rfl rfl rfl (bxx _)) ?_ rfl rfl (by kernel_rfl) (by kernel_rfl)
        refine D_done ?_ (by kernel_rfl)
        skip
        focus (refine S_false rfl rfl ?_; refine S_skip rfl ?_; refine S_seq rfl ?_; refine S_seq rfl ?_; refine S_region rfl rfl ?_; refine R_p rfl ?_ rfl rfl; refine R_take (T_not rfl) ?_ rfl rfl; refine R_nil ?_; refine S_true rfl rfl ?_; refine S_seq rfl ?_; refine S_seq rfl ?_; refine S_region rfl rfl ?_; refine R_p rfl ?_ rfl rfl; refine R_take (T_decF rfl (by omega)) ?_ rfl rfl; refine R_p rfl ?_ rfl rfl; refine R_p rfl ?_ rfl rfl; refine R_p rfl ?_ rfl rfl; refine R_p rfl ?_ rfl rfl; refine R_p rfl ?_ rfl rfl; refine R_p rfl ?_ rfl rfl; refine R_p rfl ?_ rfl rfl; refine R_p rfl ?_ rfl rfl; refine R_take (T_decF rfl (by omega)) ?_ rfl rfl; refine R_p rfl ?_ rfl rfl; refine R_p rfl ?_ rfl rfl; refine R_take (T_loads (ds := atc (0, 0)) rfl rfl rfl rfl rfl) ?_ rfl rfl; refine R_take (T_build0 at_built0) ?_ rfl rfl; refine R_take (T_neAt (a := (0, 0)) (b := (0, 0)) rfl rfl h00) ?_ rfl rfl; refine R_p rfl ?_ rfl rfl; refine R_p rfl ?_ rfl rfl; refine R_p rfl ?_ rfl rfl; refine R_p rfl ?_ rfl rfl; refine R_p rfl ?_ rfl rfl; refine R_p rfl ?_ rfl rfl; refine R_take (T_addN rfl rfl (by unfold fits; omega)) ?_ rfl rfl; refine R_take (T_decF rfl (by omega)) ?_ rfl rfl; refine R_p rfl ?_ rfl rfl; refine R_p rfl ?_ rfl rfl; refine R_p rfl ?_ rfl rfl; refine R_take (T_decF rfl (by omega)) ?_ rfl rfl; refine R_p rfl ?_ rfl rfl; refine R_p rfl ?_ rfl rfl; refine R_p rfl ?_ rfl rfl; refine R_p rfl ?_ rfl rfl; refine R_nil ?_; refine S_false rfl rfl ?_; refine S_skip rfl ?_; refine S_exit rfl rfl ?_; refine S_region rfl rfl ?_; refine R_take (T_addN rfl rfl (by unfold fits; omega)) ?_ rfl rfl; refine R_p rfl ?_ rfl rfl; refine R_nil ?_)
        exact hJ (j + 1) _ _ (by omega) (Sub.cons rfl (Sub.cons rfl (Sub.cons rfl (Sub.cons rfl (Sub.cons rfl (Sub.cons rfl (Sub.cons rfl (Sub.cons rfl Sub.nil)))))))) sub_st (by omega)
      obtain ⟨⟨ti, tb⟩, hsT⟩ : ∃ x, termR a L qi = x := ⟨_, rfl⟩
      obtain ⟨hv, hhD⟩ : ∃ x, hasB a L (qi, qu) = x := ⟨_, rfl⟩
      obtain ⟨⟨e, p, r⟩, hsF⟩ : ∃ x, frm a L qi n = x := ⟨_, rfl⟩
      obtain ⟨⟨ri, rbs, rq⟩, hsC⟩ : ∃ x, confR a L qi = x := ⟨_, rfl⟩
      have hsH : (rightB a L && hasB a L (qi, qu)) = hv := by rw [hr, hhD]; rfl
      have htD : fndT a L qi = (ti, tb) := by rw [← hsT, termR, hr, if_pos rfl]; rfl
      obtain ⟨hrl, hrm⟩ := frm_out hsF
      have hrt : ∀ y ∈ r, y.2.2.length ≤ 100000 := fun y hy => hLtx y (hrm y hy)
      obtain ⟨K7, hK7⟩ : ∃ k, r.length = k := ⟨_, rfl⟩
      have hNb := conf_out hsC hLtx
      obtain ⟨N, hN⟩ : ∃ k, rbs.length = k := ⟨_, rfl⟩
      rw [hN] at hNb
      have hff := (right_fits hr).2
      rw [hK] at hff
      have hfit : a.1 + K ≤ 18446744073709551615 := by omega
      have hpp : decide (p = p) = true := decide_eq_true rfl
      focus ((refine R_eff (E_hv0 (f := 25) ⟨_, Try.func25, rfl, by kernel_rfl⟩ (fun w hS => term_k w a A5 c5 K P5.1 L hl5 P5.2.1 ((Srd.row (A := A5) (n := K) (c := c5)).rd w hS) (by omega) qi (ti, tb) hsT) rfl rfl (fun _ => rfl)) ?_ rfl rfl; rintro _ _ ⟨_, rfl, _, rfl⟩); refine R_p rfl ?_ rfl rfl; refine R_p rfl ?_ rfl rfl; refine R_p rfl ?_ rfl rfl; refine R_p rfl ?_ rfl rfl; refine R_p rfl ?_ rfl rfl; refine R_nil ?_; refine S_seq rfl ?_; refine S_region rfl rfl ?_; refine R_take (T_loads (ds := lgc a A5 K c5) rfl rfl rfl rfl rfl) ?_ rfl rfl; refine R_take (T_loads (ds := atc (qi, qu)) rfl rfl rfl rfl rfl) ?_ rfl rfl; (refine R_eff (E_hv0 (f := 29) ⟨_, Try.func29, rfl, by kernel_rfl⟩ (fun w hS => hasF_k w a A5 c5 K P5.1 L hl5 P5.2.1 ((Srd.row (A := A5) (n := K) (c := c5)).rd w hS) (by omega) (qi, qu) hv hsH) rfl rfl (fun _ => rfl)) ?_ rfl rfl; rintro _ _ ⟨_, rfl, _, rfl⟩); refine R_p rfl ?_ rfl rfl; refine R_nil ?_; refine S_seq rfl ?_; refine S_region rfl rfl ?_; refine R_take (T_loads (ds := lgc a A5 K c5) rfl rfl rfl rfl rfl) ?_ rfl rfl; refine R_p rfl ?_ rfl rfl; refine R_take (T_load rfl rfl rfl rfl) ?_ rfl rfl; refine R_p rfl ?_ rfl rfl; (refine R_eff (E_hvG (f := 26) ⟨_, Try.func26, rfl, by kernel_rfl⟩ (fun w hS => from_S w a A5 c5 K P5.1 L hl5 P5.2.1 ((Srd.row (A := A5) (n := K) (c := c5)).rd w hS) ((SDt.own (e := 5) (D := P5.1.map emd) (by simp)).rd w hS) hc5 (by omega) hPk5 qi hqi n e p r K7 hK7 hsF) rfl rfl) ?_ rfl rfl; rintro _ _ ⟨⟨⟨A16, c16⟩, P16⟩, rfl, _, rfl⟩; dsimp only [List.cons_append, List.nil_append]; have hl16 : P16.1.length = K7 := (em_len P16.2.1).trans hK7); refine R_p rfl ?_ rfl rfl; refine R_p rfl ?_ rfl rfl; refine R_p rfl ?_ rfl rfl; refine R_p rfl ?_ rfl rfl; (refine R_eff (E_alloca rfl at_zero) ?_ rfl rfl; rintro _ _ ⟨b15, rfl, rfl⟩); (refine R_eff0 (E_storew (cs := atc (0, 0)) (ds := atc p) rfl rfl rfl rfl (atc_one _) rfl) ?_ rfl; rintro _ _ rfl); refine R_p rfl ?_ rfl rfl; refine R_p rfl ?_ rfl rfl; refine R_nil ?_; refine S_seq rfl ?_; refine S_region rfl rfl ?_; refine R_take (T_loads (ds := lgc a A5 K c5) rfl rfl rfl rfl rfl) ?_ rfl rfl; refine R_p rfl ?_ rfl rfl; refine R_take (T_load rfl rfl rfl rfl) ?_ rfl rfl; (refine R_eff (E_hvG (f := 30) ⟨_, Try.func30, rfl, by kernel_rfl⟩ (fun w hS => confP_any w a A5 c5 K P5.1 L hl5 P5.2.1 ((Srd.row (A := A5) (n := K) (c := c5)).rd w hS) ((SDt.own (e := 5) (D := P5.1.map emd) (by simp)).rd w hS) (by omega) hPk5 qi ri rbs rq N hN hsC) rfl rfl) ?_ rfl rfl; rintro _ _ ⟨⟨A19, c19⟩, rfl, _, rfl⟩; dsimp only [List.cons_append, List.nil_append]); refine R_p rfl ?_ rfl rfl; refine R_p rfl ?_ rfl rfl; refine R_p rfl ?_ rfl rfl; refine R_p rfl ?_ rfl rfl; refine R_p rfl ?_ rfl rfl; refine R_p rfl ?_ rfl rfl; refine R_p rfl ?_ rfl rfl; refine R_nil ?_; refine S_seq rfl ?_; refine S_seq rfl ?_)
      refine S_draw ([pt b11 24 (atc (qi, qu))]) sub_st (by kernel_rfl) rfl (by kernel_rfl) (by kernel_rfl : _ = 11) ?_
      refine D_take 0 rfl (T_loads (ds := atc (qi, qu)) rfl rfl rfl rfl rfl) ?_ rfl rfl (by kernel_rfl) (by kernel_rfl)
      refine D_take 1 rfl (pev_ok rfl) ?_ rfl rfl (by kernel_rfl) (by kernel_rfl)
      refine D_take 2 rfl (T_ixM (sz := 2) (q := 0) rfl rfl rfl rfl rfl rfl hne h0l) ?_ rfl rfl (by kernel_rfl) (by kernel_rfl)
      refine D_take 3 rfl (T_lda (ds := atc y) rfl rfl rfl (Srd.old h2 (fun k _ => noOwns k)) rfl (by omega) hat0) ?_ rfl rfl (by kernel_rfl) (by kernel_rfl)
      refine D_take 5 rfl (T_loads (ds := atc (qi, qu)) rfl rfl rfl rfl rfl) ?_ rfl rfl (by kernel_rfl) (by kernel_rfl)
      refine D_take 6 rfl (pev_ok rfl) ?_ rfl rfl (by kernel_rfl) (by kernel_rfl)
      refine D_take 7 rfl (T_ixM (sz := 2) (q := 0) rfl rfl rfl rfl rfl rfl hne h0l) ?_ rfl rfl (by kernel_rfl) (by kernel_rfl)
      refine D_take 8 rfl (T_lda (ds := atc y) rfl rfl rfl (Srd.old h2 (fun k _ => noOwns k)) rfl (by omega) hat0) ?_ rfl rfl (by kernel_rfl) (by kernel_rfl)
      refine D_one 4 rfl (E_hv0 (f := 31) ⟨_, Try.func31, rfl, by kernel_rfl⟩ (fun w hS => newer_any w (qi, qu) y) rfl rfl (fun _ => rfl)) ?_ rfl rfl (by kernel_rfl)
      rintro _ _ ⟨_, rfl, _, rfl⟩
      refine Nx_same sub_st ?_
      refine D_one 9 rfl (E_hv0 (f := 32) ⟨_, Try.func32, rfl, by kernel_rfl⟩ (fun w hS => newerD_any w (qi, qu) y) rfl rfl (fun _ => rfl)) ?_ rfl rfl (by kernel_rfl)
      rintro _ _ ⟨_, rfl, _, rfl⟩
      refine Nx_same sub_st ?_
      refine D_take 10 rfl (T_bnq rfl rfl rfl rfl (bxx _)) ?_ rfl rfl (by kernel_rfl) (by kernel_rfl)
      refine D_done ?_ (by kernel_rfl)
      skip
      focus (refine S_false rfl rfl ?_; refine S_skip rfl ?_; refine S_seq rfl ?_; refine S_seq rfl ?_; refine S_region rfl rfl ?_; refine R_take (T_decT rfl (by omega)) ?_ rfl rfl; refine R_take (T_not rfl) ?_ rfl rfl; refine R_nil ?_; refine S_false rfl rfl ?_; refine S_skip rfl ?_; refine S_seq rfl ?_; refine S_region rfl rfl ?_; refine R_take (T_loads (ds := lgc a A6 K c6) rfl rfl rfl rfl rfl) ?_ rfl rfl; refine R_p rfl ?_ rfl rfl; refine R_take (T_load rfl rfl rfl rfl) ?_ rfl rfl; (refine R_eff (E_hv0 (f := 33) ⟨_, Try.func33, rfl, by kernel_rfl⟩ (fun w hS => termD_any w a A6 c6 K P6.1 L hl6 P6.2.1 ((Srd.row (A := A6) (n := K) (c := c6)).rd w hS) (by omega) hfit qi _ htD) rfl rfl (fun _ => rfl)) ?_ rfl rfl; rintro _ _ ⟨_, rfl, _, rfl⟩); refine R_p rfl ?_ rfl rfl; refine R_p rfl ?_ rfl rfl; refine R_p rfl ?_ rfl rfl; refine R_p rfl ?_ rfl rfl; refine R_p rfl ?_ rfl rfl; refine R_nil ?_; refine S_seq rfl ?_; refine S_region rfl rfl ?_; refine R_take (T_loads (ds := lgc a A6 K c6) rfl rfl rfl rfl rfl) ?_ rfl rfl; refine R_p rfl ?_ rfl rfl; refine R_take (T_load rfl rfl rfl rfl) ?_ rfl rfl; refine R_p rfl ?_ rfl rfl; (refine R_eff (E_hvG (f := 34) ⟨_, Try.func34, rfl, by kernel_rfl⟩ (fun w hS => fromD_any w a A6 c6 K P6.1 L hl6 P6.2.1 ((Srd.row (A := A6) (n := K) (c := c6)).rd w hS) ((SDt.own (e := 5) (D := P6.1.map emd) (by simp)).rd w hS) hc6 (by omega) hPk6 hr qi hqi n e p r K7 hK7 hsF) rfl rfl) ?_ rfl rfl; rintro _ _ ⟨⟨⟨A24, c24⟩, P24⟩, rfl, _, rfl⟩; dsimp only [List.cons_append, List.nil_append]; have hl24 : P24.1.length = K7 := (em_len P24.2.1).trans hK7); refine R_p rfl ?_ rfl rfl; refine R_p rfl ?_ rfl rfl; refine R_p rfl ?_ rfl rfl; refine R_p rfl ?_ rfl rfl; (refine R_eff (E_alloca rfl at_zero) ?_ rfl rfl; rintro _ _ ⟨b23, rfl, rfl⟩); (refine R_eff0 (E_storew (cs := atc (0, 0)) (ds := atc p) rfl rfl rfl rfl (atc_one _) rfl) ?_ rfl; rintro _ _ rfl); refine R_p rfl ?_ rfl rfl; refine R_p rfl ?_ rfl rfl; refine R_nil ?_; refine S_seq rfl ?_; refine S_region rfl rfl ?_; refine R_take (T_loads (ds := lgc a A6 K c6) rfl rfl rfl rfl rfl) ?_ rfl rfl; refine R_p rfl ?_ rfl rfl; refine R_take (T_load rfl rfl rfl rfl) ?_ rfl rfl; (refine R_eff (E_hvG (f := 35) ⟨_, Try.func35, rfl, by kernel_rfl⟩ (fun w hS => confD_any w a A6 c6 K P6.1 L hl6 P6.2.1 ((Srd.row (A := A6) (n := K) (c := c6)).rd w hS) ((SDt.own (e := 5) (D := P6.1.map emd) (by simp)).rd w hS) (by omega) hPk6 hr qi ri rbs rq N hN hsC) rfl rfl) ?_ rfl rfl; rintro _ _ ⟨⟨A27, c27⟩, rfl, _, rfl⟩; dsimp only [List.cons_append, List.nil_append]); refine R_p rfl ?_ rfl rfl; refine R_p rfl ?_ rfl rfl; refine R_p rfl ?_ rfl rfl; refine R_p rfl ?_ rfl rfl; refine R_p rfl ?_ rfl rfl; refine R_p rfl ?_ rfl rfl; refine R_p rfl ?_ rfl rfl; refine R_nil ?_; refine S_seq rfl ?_; refine S_seq rfl ?_; refine S_region rfl rfl ?_; refine R_p rfl ?_ rfl rfl; refine R_p rfl ?_ rfl rfl; refine R_take (T_decF rfl (by omega)) ?_ rfl rfl; refine R_p rfl ?_ rfl rfl; refine R_p rfl ?_ rfl rfl; refine R_p rfl ?_ rfl rfl; refine R_take (T_bnq rfl rfl rfl rfl (bxx _)) ?_ rfl rfl; refine R_p rfl ?_ rfl rfl; refine R_p rfl ?_ rfl rfl; refine R_p rfl ?_ rfl rfl; refine R_take (T_loads (ds := lgc a A6 K c6) rfl rfl rfl rfl rfl) ?_ rfl rfl; refine R_take (T_loads (ds := atc (qi, qu)) rfl rfl rfl rfl rfl) ?_ rfl rfl; (refine R_eff (E_hv0 (f := 36) ⟨_, Try.func36, rfl, by kernel_rfl⟩ (fun w hS => hasD_any w a A6 c6 K P6.1 L hl6 P6.2.1 ((Srd.row (A := A6) (n := K) (c := c6)).rd w hS) (by omega) hfit (qi, qu) hv hhD) rfl rfl (fun _ => rfl)) ?_ rfl rfl; rintro _ _ ⟨_, rfl, _, rfl⟩); refine R_take (T_bnq rfl rfl rfl rfl (bxx _)) ?_ rfl rfl; refine R_p rfl ?_ rfl rfl; refine R_p rfl ?_ rfl rfl; refine R_take (T_loads (ds := atc p) rfl rfl rfl rfl rfl) ?_ rfl rfl; refine R_take (T_loads (ds := atc p) rfl rfl rfl rfl rfl) ?_ rfl rfl; refine R_take (T_neAt (a := p) (b := p) rfl rfl hpp) ?_ rfl rfl; refine R_p rfl ?_ rfl rfl; refine R_p rfl ?_ rfl rfl; refine R_p rfl ?_ rfl rfl; refine R_p rfl ?_ rfl rfl; refine R_take (T_decF rfl (by omega)) ?_ rfl rfl; refine R_p rfl ?_ rfl rfl; refine R_p rfl ?_ rfl rfl; refine R_p rfl ?_ rfl rfl; refine R_p rfl ?_ rfl rfl; (refine R_eff (E_hv0 (f := 15) ⟨_, Try.func15, rfl, by kernel_rfl⟩ (fun w hS => sameE_kr w A16 A24 c16 c24 K7 K7 P16.1 P24.1 r r hl16 hl24 P16.2.1 P24.2.1 ((Srd.row (A := A16) (n := K7) (c := c16)).rd w hS) ((Srd.row (A := A24) (n := K7) (c := c24)).rd w hS) (fun m hm => dtB_bs (e := 5) (D := P16.1.map emd) hS (by simp) (emd m) (List.mem_map.2 ⟨m, hm, rfl⟩)) (fun m hm => dtB_bs (e := 5) (D := P24.1.map emd) hS (by simp) (emd m) (List.mem_map.2 ⟨m, hm, rfl⟩)) (by omega) (by omega) true (decide_eq_true rfl)) rfl rfl (fun _ => rfl)) ?_ rfl rfl; rintro _ _ ⟨_, rfl, _, rfl⟩); refine R_take (T_not rfl) ?_ rfl rfl; refine R_p rfl ?_ rfl rfl; refine R_p rfl ?_ rfl rfl; refine R_p rfl ?_ rfl rfl; refine R_p rfl ?_ rfl rfl; refine R_take (T_decF rfl (by omega)) ?_ rfl rfl; refine R_p rfl ?_ rfl rfl; refine R_p rfl ?_ rfl rfl; refine R_p rfl ?_ rfl rfl; refine R_p rfl ?_ rfl rfl; (refine R_eff (E_hv0 (f := 37) ⟨_, Try.func37, rfl, by kernel_rfl⟩ (fun w hS => beq_k w A19 A27 N c19 N c27 rbs (row_bs (e := 5) (A := A19) (n := N) (c := c19) hS (by simp) hN) (row_bs (e := 5) (A := A27) (n := N) (c := c27) hS (by simp) hN)) rfl rfl (fun _ => rfl)) ?_ rfl rfl; rintro _ _ ⟨_, rfl, _, rfl⟩); refine R_take (T_not rfl) ?_ rfl rfl; refine R_p rfl ?_ rfl rfl; refine R_p rfl ?_ rfl rfl; refine R_p rfl ?_ rfl rfl; refine R_p rfl ?_ rfl rfl; refine R_take (T_bnq rfl rfl rfl rfl (bxx _)) ?_ rfl rfl; refine R_p rfl ?_ rfl rfl; refine R_nil ?_; refine S_false rfl rfl ?_; refine S_skip rfl ?_; refine S_seq rfl ?_; refine S_region rfl rfl ?_; refine R_p rfl ?_ rfl rfl; refine R_take (T_build1 rfl (lg_built1 A16 K7 c16)) ?_ rfl rfl; (refine R_eff (E_dr2 (f := 18) (A1 := row 44 3 A16 K7 c16 (cellsL emc P16.1)) (A2 := dtB 5 (P16.1.map emd)) ⟨_, Try.func18, rfl, by kernel_rfl⟩ (fun w _ hS => spoil_any w (0, 0) A16 c16 K7 P16.1 hl16 (by omega) (em_txt P16.2.1 hrt) hS) rfl rfl) ?_ rfl rfl; rintro _ _ ⟨_, rfl, _, rfl⟩); refine R_nil ?_; refine S_seq rfl ?_; refine S_seq rfl ?_; refine S_region rfl rfl ?_; refine R_p rfl ?_ rfl rfl; refine R_p rfl ?_ rfl rfl; refine R_p rfl ?_ rfl rfl; refine R_nil ?_; refine S_block rfl ?_)
      refine RS_row A19 N c19 fun _ _ hneD _ => ?_
      obtain ⟨zs, hzs, hzl⟩ := bv_zs rbs
      rw [hN] at hzl
      refine S_loop (X := Nat × List Int) (fun x => [(19, .slice A19 N c19), (202, .int .i64 (N : Int)), (203, .int .i64 (x.1 : Int)), (1, .slice A2 Z.length c2'), (2, zi n), (3, .pointer (some ⟨b3, 0, none⟩)), (7, .pointer (some ⟨b7, 0, none⟩)), (8, .bool true), (46, .slice A2 Z.length c2'), (47, .int .i64 (Z.length : Int)), (48, .int .i64 (j : Int))]) (fun x => [row 5 1 A19 N c19 (x.2.map (Value.int .u8)), pt b3 27 (lgc a A5 K c5), row 44 3 A5 K c5 (cellsL emc P5.1), dtB 5 (P5.1.map emd), pt b7 27 (lgc a A6 K c6), row 44 3 A6 K c6 (cellsL emc P6.1), dtB 5 (P6.1.map emd)]) (fun x => x.1 ≤ N ∧ x.2.length = N) (fun x => N - x.1) rfl (0, zs) ⟨Nat.zero_le _, hzl⟩ (Sub.cons rfl (Sub.cons rfl (Sub.cons rfl (Sub.cons rfl (Sub.cons rfl (Sub.cons rfl (Sub.cons rfl (Sub.cons rfl (Sub.cons rfl (Sub.cons rfl (Sub.cons rfl Sub.nil))))))))))) (fun w' hS => ?_) ?_
      · have h3 := sub_st (H' := [row 5 1 A19 N c19 (rbs.map bv), pt b3 27 (lgc a A5 K c5), row 44 3 A5 K c5 (cellsL emc P5.1), dtB 5 (P5.1.map emd), pt b7 27 (lgc a A6 K c6), row 44 3 A6 K c6 (cellsL emc P6.1), dtB 5 (P6.1.map emd)]) w' hS
        rw [hzs] at h3
        exact h3
      rintro ⟨i, us⟩ ⟨hi, hul⟩ J2 hJ2
      dsimp only at hi hul ⊢
      rcases Nat.lt_or_ge i N with hil | hil
      · have hneD := hneD (by omega)
        focus (refine S_seq rfl ?_; refine S_region rfl rfl ?_; refine R_take (T_decT rfl (by omega)) ?_ rfl rfl; refine R_nil ?_; refine S_seq rfl ?_; refine S_true rfl rfl ?_; refine S_skip rfl ?_; refine S_seq rfl ?_; refine S_block rfl ?_; refine S_seq rfl ?_; refine S_region rfl rfl ?_; refine R_p rfl ?_ rfl rfl; refine R_p rfl ?_ rfl rfl; refine R_nil ?_; refine S_region rfl rfl ?_; refine R_p rfl ?_ rfl rfl; refine R_p rfl ?_ rfl rfl; refine R_take (T_ixN rfl rfl rfl rfl rfl rfl hneD hil) ?_ rfl rfl; refine R_take (T_ldr (sz := 1) (v := .int .u8 (us.getD i 0)) rfl rfl rfl (Srd.row (A := A19) (n := N) (c := c19)) (by omega) (int_at (by omega))) ?_ rfl rfl; refine R_take (T_arith (op := .xor) rfl rfl rfl) ?_ rfl rfl; refine R_take (T_ixN rfl rfl rfl rfl rfl rfl hneD hil) ?_ rfl rfl; (refine R_eff0 (E_storeR1 (A := A19) (m := N) (c := c19) (xs := us.map (Value.int .u8)) rfl rfl rfl rfl rfl (by rw [List.length_map]; omega)) ?_ rfl; rintro _ _ rfl); refine R_nil ?_; refine RS_blk ?_; refine S_region rfl rfl ?_; refine R_take (T_addN rfl rfl (by unfold fits; omega)) ?_ rfl rfl; refine R_p rfl ?_ rfl rfl; refine R_nil ?_)
        rw [← List.map_set]
        exact hJ2 (i + 1, us.set i _) _ _ ⟨by show i + 1 ≤ _; omega, by dsimp only; rw [List.length_set]; exact hul⟩ (Sub.cons rfl (Sub.cons rfl (Sub.cons rfl (Sub.cons rfl (Sub.cons rfl (Sub.cons rfl (Sub.cons rfl (Sub.cons rfl (Sub.cons rfl (Sub.cons rfl (Sub.cons rfl Sub.nil))))))))))) (fun _ h => h) (by show N - (i + 1) < _; omega)
      · skip
        focus (refine S_seq rfl ?_; refine S_region rfl rfl ?_; refine R_take (T_decF rfl (by omega)) ?_ rfl rfl; refine R_nil ?_; refine S_seq rfl ?_; refine S_false rfl rfl ?_; refine S_exit rfl rfl ?_; refine S_seq rfl ?_; refine S_region rfl rfl ?_; refine R_take (T_loads (ds := lgc a A5 K c5) rfl rfl rfl rfl rfl) ?_ rfl rfl; refine R_take (T_loads (ds := lgc a A6 K c6) rfl rfl rfl rfl rfl) ?_ rfl rfl; (refine R_eff (E_hv0 (f := 14) ⟨_, Try.func14, rfl, by kernel_rfl⟩ (fun w hS => sameD_kr w a a A5 A6 c5 c6 K K P5.1 P6.1 L L hl5 hl6 P5.2.1 P6.2.1 ((Srd.row (A := A5) (n := K) (c := c5)).rd w hS) ((Srd.row (A := A6) (n := K) (c := c6)).rd w hS) (fun m hm => dtB_bs (e := 5) (D := P5.1.map emd) hS (by simp) (emd m) (List.mem_map.2 ⟨m, hm, rfl⟩)) (fun m hm => dtB_bs (e := 5) (D := P6.1.map emd) hS (by simp) (emd m) (List.mem_map.2 ⟨m, hm, rfl⟩)) (by omega) (by omega) true (same_tt a L)) rfl rfl (fun _ => rfl)) ?_ rfl rfl; rintro _ _ ⟨_, rfl, _, rfl⟩); refine R_take (T_not rfl) ?_ rfl rfl; refine R_nil ?_; refine S_false rfl rfl ?_; refine S_skip rfl ?_; refine RS_blk ?_; refine S_region rfl rfl ?_; refine R_take (T_addN rfl rfl (by unfold fits; omega)) ?_ rfl rfl; refine R_p rfl ?_ rfl rfl; refine R_nil ?_)
        exact hJ (j + 1) _ _ (by omega) (Sub.cons rfl (Sub.cons rfl (Sub.cons rfl (Sub.cons rfl (Sub.cons rfl (Sub.cons rfl (Sub.cons rfl (Sub.cons rfl Sub.nil)))))))) sub_st (by omega)
    · focus (refine S_seq rfl ?_; refine S_region rfl rfl ?_; refine R_take (T_decF rfl (by omega)) ?_ rfl rfl; refine R_nil ?_; refine S_seq rfl ?_; refine S_false rfl rfl ?_; refine S_exit rfl rfl ?_; refine S_seq rfl ?_; refine S_region rfl rfl ?_; refine R_p rfl ?_ rfl rfl; refine R_nil ?_)
      exact hB _ _ _ _ _ rfl rfl fun w' hS => ⟨(), rfl, trivial, hS.sublist (List.nil_sublist _)⟩
  cases r0
  · have e0 : p0 = (0, 0) := by rw [← hp0, hr]; rfl
    rw [e0] at hmain
    focus (refine S_false rfl rfl ?_; refine S_skip rfl ?_; refine S_seq rfl ?_; refine S_seq rfl ?_)
    exact RS_sub (Sub.cons rfl (Sub.cons rfl (Sub.cons rfl (Sub.cons rfl (Sub.cons rfl (Sub.cons rfl Sub.nil)))))) (RS_mem sub_st hmain)
  · have hff := (right_fits hr).2
    rw [hK] at hff
    have hla : lastA a L = p0 := by rw [← hp0, hr, if_pos rfl]
    focus (refine S_true rfl rfl ?_; refine S_region rfl rfl ?_; refine R_take (T_loads (ds := lgc a A6 K c6) rfl rfl rfl rfl rfl) ?_ rfl rfl; (refine R_eff (E_hv0 (f := 27) ⟨_, Try.func27, rfl, by kernel_rfl⟩ (fun w hS => lastD_any w a A6 c6 K P6.1 L hl6 P6.2.1 ((Srd.row (A := A6) (n := K) (c := c6)).rd w hS) (by omega) (by omega) p0 hla) rfl rfl (fun _ => rfl)) ?_ rfl rfl; rintro _ _ ⟨_, rfl, _, rfl⟩); (refine R_eff0 (E_storew (cs := atc (0, 0)) (ds := atc p0) rfl rfl rfl rfl (atc_one _) rfl) ?_ rfl; rintro _ _ rfl); refine R_nil ?_; refine S_seq rfl ?_; refine S_seq rfl ?_)
    exact RS_sub (Sub.cons rfl (Sub.cons rfl (Sub.cons rfl (Sub.cons rfl (Sub.cons rfl (Sub.cons rfl Sub.nil)))))) (RS_mem sub_st hmain)
section
variable {H : Type} {enc : TypeId × Value → H} {W : World}
set_option maxRecDepth 100000 in
theorem op_at {cs : List Value} (h : Op_ enc Try.prog W 24 cs) : ∃ a : At, cs = atc a ∧ a.1 < 18446744073709551616 ∧ a.2 < 18446744073709551616 := by
  have c1 : Try.prog.cellsOf 24 = 2 := by kernel_rfl
  have c3 : Try.prog.cellsOf 22 = 1 := by kernel_rfl
  obtain ⟨hl2, hf2⟩ := h.struct Try.underlying24
  rw [c1] at hl2
  have g2 : Op_ enc Try.prog W 22 ((cs.drop 0).take (Try.prog.cellsOf 22)) := hf2 0 _ rfl
  have g3 : Op_ enc Try.prog W 22 ((cs.drop 1).take (Try.prog.cellsOf 22)) := hf2 1 _ rfl
  rw [c3] at g2 g3
  obtain ⟨i, hi, hwi⟩ := Op_.int Try.underlying22 g2
  obtain ⟨t, ht, hwt⟩ := Op_.int Try.underlying22 g3
  obtain ⟨i, rfl, hi2⟩ := wf_u64 hwi
  obtain ⟨t, rfl, ht2⟩ := wf_u64 hwt
  refine ⟨(i, t), ?_, hi2, ht2⟩
  match cs, hl2 with
  | [u, v], _ =>
    simp at hi ht
    rw [hi, ht]
    rfl
end
set_option maxRecDepth 100000 in
theorem open_ats {H : Type} {enc : TypeId × Value → H} {W : World} {r : Reach} {base : Nat} {v : Value} {d : DataW H} {p : List MemPlace} (hv : Value.okWide Try.prog W r base 70 v) (h : DataW.Trod enc Try.prog W 0 (fun _ => true) true 70 v d p) :
    ∃ (A : Option Addr) (c : Nat) (Z : List At), v = .slice A Z.length c ∧ Rd W All 2 A Z.length (cellsL atc Z) ∧ (∀ q ∈ Z, q.1 < 18446744073709551616) ∧ Z.length ≤ maxLen := by
  obtain ⟨a0, len0, cap0, rfl⟩ := okWide_slice Try.underlying70 hv
  obtain ⟨A, n, c, xs, hcs, h1, h2, h3, h4⟩ := (Op_.of_trod h).slice Try.underlying70 (size := 2) (by kernel_rfl)
  simp [Value.cells] at hcs
  obtain ⟨rfl, rfl, rfl⟩ := hcs
  obtain ⟨Z, hZ, rfl, hall⟩ := rows_of (n := 0) (size := 2) (f := atc) atc_len (fun q : At => q.1 < 18446744073709551616) _ _ h3.1 fun i hi => by
    obtain ⟨a, hc, k1, k2⟩ := op_at (h4 i hi)
    exact ⟨a, hc, k1⟩
  subst hZ
  exact ⟨_, _, Z, rfl, h3, hall, by omega⟩
set_option maxRecDepth 100000 in
theorem LogTells_open {H : Type} {enc : TypeId × Value → H} (W : World) {r : Reach} (base : Nat) (v0 v1 v2 : Value) {d0 d1 d2 : DataW H} {p0 p1 p2 : List MemPlace}
    (hv0 : Value.okWide Try.prog W r base 27 v0) (hv1 : Value.okWide Try.prog W r base 70 v1) (hv2 : Value.okWide Try.prog W r base 3 v2)
    (h0 : DataW.Trod enc Try.prog W 0 (fun _ => true) true 27 v0 d0 p0) (h1 : DataW.Trod enc Try.prog W 0 (fun _ => true) true 70 v1 d1 p1) (h2 : DataW.Trod enc Try.prog W 0 (fun _ => true) true 3 v2 d2 p2) :
    Calls Try.prog 9 #[v0, v1, v2] W fun e w' => e = .returned (.bool true) ∧ Kp All W w' := by
  obtain ⟨a, A, c, Q, rfl, g1, g2, _, g3, _, g4⟩ := open_log hv0 h0
  obtain ⟨A2, c2', Z, rfl, k1, k2, k3⟩ := open_ats hv1 h1
  obtain ⟨z, rfl⟩ := okWide_int Try.underlying3 hv2
  exact (tells_any W a A c Q g1 g2 (fun m hm => (g3 m hm).1) A2 c2' Z k1 k2 k3 z).pure12
end Go.Proofs.Ytkdpfnaaopimoaa
