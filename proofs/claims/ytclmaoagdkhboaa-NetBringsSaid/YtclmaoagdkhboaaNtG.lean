/- Nets: the law NetSends. -/
import Derived.Test.YtclmaoagdkhboaaNtF
namespace Go.Proofs.Ytclmaoagdkhboaa
open Go.RowKit Go.ChangeShapes Go.WideShapes Go.ChangeAt
open Asn (pt row rb)
set_option linter.unusedVariables false
set_option linter.unusedSimpArgs false
--@use N

def BsD (w : World) (d : Dt) : Prop := Bs w All d.1 d.2.2.length d.2.1 d.2.2
theorem bs_R {w : World} {P R : List Pk} {S : List Sd} (hp : ∀ m ∈ P, BsP w m) (hs : ∀ s ∈ S, BsD w (sdd s)) (hR : ∀ m ∈ R, pkd m ∈ P.map pkd ++ S.map sdd) : ∀ m ∈ R, BsP w m := fun m hm => by
  show BsD w (pkd m)
  rcases List.mem_append.1 (hR m hm) with h | h
  · obtain ⟨p, hp1, hp2⟩ := List.mem_map.1 h
    rw [← hp2]
    exact hp p hp1
  · obtain ⟨p, hp1, hp2⟩ := List.mem_map.1 h
    rw [← hp2]
    exact hs p hp1
theorem sendW_le (C : List Ct) (fr : Int) (S : List Sv) : ∀ W : List Pn, (sendW C fr W S).length ≤ W.length + S.length := by
  induction S with
  | nil => intro W; exact Nat.le_refl _
  | cons s S ih =>
    intro W
    have h1 := ih (sayW C fr W s)
    have h2 : (sayW C fr W s).length ≤ W.length + 1 := by
      unfold sayW
      by_cases h : (pkB (fr, s.1, s.2) && !partP C fr s.1 && decide (W.length < 80)) = true
      · rw [if_pos h, List.length_append]; exact Nat.le_refl _
      · rw [if_neg h]; omega
    have e : sendW C fr W (s :: S) = sendW C fr (sayW C fr W s) S := rfl
    rw [e, List.length_cons]
    omega
set_option maxRecDepth 100000 in
set_option maxHeartbeats 4000000 in
theorem sends_any (w : World) (A : Option Addr) (c n : Nat) (P : List Pk) (W : List Pn) (hk : P.length = n) (hW : P.map pkv = W) (h : Rd w All 3 A n (cellsL pkc P)) (A2 : Option Addr) (c2' n2 : Nat) (C : List Ct) (hk2 : C.length = n2) (h2 : Rd w All 2 A2 n2 (cellsL ctc C)) (hp : ∀ m ∈ P, BsP w m) (hd : RDt w All (P.map pkd)) (hnl : n ≤ maxLen) (hnl2 : n2 ≤ maxLen) (B1 : Option Addr) (d m : Nat) (Q : List Pk) (V : List Pn) (hm : Q.length = m) (hV : Q.map pkv = V) (k1 : Rd w All 3 B1 m (cellsL pkc Q)) (B2 : Option Addr) (d2 m2 : Nat) (D : List Ct) (hm2 : D.length = m2) (k2 : Rd w All 2 B2 m2 (cellsL ctc D)) (hq : ∀ m ∈ Q, BsP w m) (hml : m ≤ maxLen) (hml2 : m2 ≤ maxLen) (fr : Int) (SA : Option Addr) (sc k : Nat) (S : List Sd) (hSk : S.length = k) (hSr : Rd w All 2 SA k (cellsL sdc S)) (hSd : RDt w All (S.map sdd)) (hs : ∀ s ∈ S, BsD w (sdd s)) (hkm : k ≤ maxLen) :
    Gives Try.prog 4 [.agg (ntc A n c A2 n2 c2').toArray, .agg (ntc B1 m d B2 m2 d2).toArray, .agg ([.int .i64 fr, .slice SA k sc] : List Value).toArray] [] w (X := Unit) (fun _ => .bool true) (fun _ => True) (fun _ => []) := by
  refine gives_S Try.func4 rfl Try.ntmps4 Try.results4 (by simp) (St.enter w) (fun B hB => ?_)
  have hWn : W.length = n := by rw [← hW, List.length_map, hk]
  have hneS : 0 < k → SA ≠ none := fun h0 => by obtain ⟨ad, rfl, _⟩ := hSr.2 (by omega); simp
  unfold maxLen at hkm
  focus (refine S_seq rfl ?_; refine S_region rfl rfl ?_; (refine R_eff (E_boxa (cs := ntc A n c A2 n2 c2') rfl) ?_ rfl rfl; rintro _ _ ⟨b3, rfl, rfl⟩); (refine R_eff (E_boxa (cs := ntc B1 m d B2 m2 d2) rfl) ?_ rfl rfl; rintro _ _ ⟨b4, rfl, rfl⟩); (refine R_eff (E_boxa (cs := [.int .i64 fr, .slice SA k sc]) rfl) ?_ rfl rfl; rintro _ _ ⟨b5, rfl, rfl⟩); refine R_p rfl ?_ rfl rfl; refine R_nil ?_; refine S_seq rfl ?_; refine S_seq rfl ?_; refine S_region rfl rfl ?_; (refine R_eff (E_hv0 (f := 8) ⟨_, Try.func8, rfl, by kernel_rfl⟩ (fun w hS => wakes23_any w) rfl rfl (fun _ => rfl)) ?_ rfl rfl; rintro _ _ ⟨_, rfl, _, rfl⟩); refine R_take (T_not rfl) ?_ rfl rfl; refine R_nil ?_; refine S_false rfl rfl ?_; refine S_skip rfl ?_; refine S_seq rfl ?_; refine S_seq rfl ?_; refine S_region rfl rfl ?_; refine R_take (T_loads (ds := ntc A n c A2 n2 c2') rfl rfl rfl rfl rfl) ?_ rfl rfl)
  (((refine R_eff (E_hv0 (f := 9) ⟨_, Try.func9, rfl, by kernel_rfl⟩ (fun w hS => large_any w A c n P W hk hW ((Srd.old h (fun k _ => noOwns k)).rd w hS) A2 c2' n2 C hk2 ((Srd.old h2 (fun k _ => noOwns k)).rd w hS) hnl hnl2) rfl rfl (fun _ => rfl)) ?_ rfl rfl; rintro _ _ ⟨lg1, rfl, hlg1, rfl⟩)))
  cases lg1
  case true =>
    focus (refine R_take (T_decT rfl (by omega)) ?_ rfl rfl; refine R_skip ?_ rfl rfl; refine R_skip ?_ rfl rfl; refine R_take (T_decT rfl (by omega)) ?_ rfl rfl; refine R_take (T_decT rfl (by omega)) ?_ rfl rfl; refine R_skip ?_ rfl rfl; refine R_skip ?_ rfl rfl; refine R_skip ?_ rfl rfl; refine R_skip ?_ rfl rfl; refine R_take (T_decT rfl (by omega)) ?_ rfl rfl; refine R_nil ?_; refine S_true rfl rfl ?_; refine S_seq rfl ?_; refine S_region rfl rfl ?_; refine R_take (T_decT rfl (by omega)) ?_ rfl rfl; refine R_nil ?_)
    exact hB _ _ _ _ _ rfl rfl fun w' hS => ⟨(), rfl, trivial, hS.sublist (List.nil_sublist _)⟩
  obtain ⟨hn, hn2, hkt⟩ := hlg1 rfl
  focus (refine R_p rfl ?_ rfl rfl; refine R_take (T_loads (ds := ntc B1 m d B2 m2 d2) rfl rfl rfl rfl rfl) ?_ rfl rfl)
  (((refine R_eff (E_hv0 (f := 9) ⟨_, Try.func9, rfl, by kernel_rfl⟩ (fun w hS => large_any w B1 d m Q V hm hV ((Srd.old k1 (fun k _ => noOwns k)).rd w hS) B2 d2 m2 D hm2 ((Srd.old k2 (fun k _ => noOwns k)).rd w hS) hml hml2) rfl rfl (fun _ => rfl)) ?_ rfl rfl; rintro _ _ ⟨lg2, rfl, hlg2, rfl⟩)))
  cases lg2
  case true =>
    focus (refine R_take (T_decT rfl (by omega)) ?_ rfl rfl; refine R_take (T_decT rfl (by omega)) ?_ rfl rfl; refine R_skip ?_ rfl rfl; refine R_skip ?_ rfl rfl; refine R_skip ?_ rfl rfl; refine R_skip ?_ rfl rfl; refine R_take (T_decT rfl (by omega)) ?_ rfl rfl; refine R_nil ?_; refine S_true rfl rfl ?_; refine S_seq rfl ?_; refine S_region rfl rfl ?_; refine R_take (T_decT rfl (by omega)) ?_ rfl rfl; refine R_nil ?_)
    exact hB _ _ _ _ _ rfl rfl fun w' hS => ⟨(), rfl, trivial, hS.sublist (List.nil_sublist _)⟩
  obtain ⟨hmn, hmn2, _⟩ := hlg2 rfl
  by_cases hk100 : 100 < k
  · --
    focus (refine R_p rfl ?_ rfl rfl; refine R_p rfl ?_ rfl rfl; refine R_p rfl ?_ rfl rfl; refine R_take (T_load rfl rfl rfl rfl) ?_ rfl rfl; refine R_p rfl ?_ rfl rfl; refine R_take (T_decT rfl (by omega)) ?_ rfl rfl; refine R_p rfl ?_ rfl rfl; refine R_nil ?_; refine S_true rfl rfl ?_; refine S_seq rfl ?_; refine S_region rfl rfl ?_; refine R_p rfl ?_ rfl rfl; refine R_nil ?_)
    exact hB _ _ _ _ _ rfl rfl fun w' hS => ⟨(), rfl, trivial, hS.sublist (List.nil_sublist _)⟩
  focus (refine R_p rfl ?_ rfl rfl; refine R_p rfl ?_ rfl rfl; refine R_p rfl ?_ rfl rfl; refine R_take (T_load rfl rfl rfl rfl) ?_ rfl rfl; refine R_p rfl ?_ rfl rfl; refine R_take (T_decF rfl (by omega)) ?_ rfl rfl; refine R_p rfl ?_ rfl rfl; refine R_nil ?_; refine S_false rfl rfl ?_; refine S_skip rfl ?_; refine S_seq rfl ?_; refine S_seq rfl ?_; refine S_region rfl rfl ?_; refine R_p rfl ?_ rfl rfl; refine R_take (T_load rfl rfl rfl rfl) ?_ rfl rfl; refine R_p rfl ?_ rfl rfl; refine R_p rfl ?_ rfl rfl; refine R_nil ?_; refine S_block rfl ?_)
  refine S_loop (X := Nat) (fun j => [(3, .pointer (some ⟨b3, 0, none⟩)), (4, .pointer (some ⟨b4, 0, none⟩)), (5, .pointer (some ⟨b5, 0, none⟩)), (26, .slice SA k sc), (27, .int .i64 (k : Int)), (28, .int .i64 (j : Int))]) (fun _ => [pt b3 25 (ntc A n c A2 n2 c2'), pt b4 25 (ntc B1 m d B2 m2 d2), pt b5 44 ([.int .i64 fr, .slice SA k sc])]) (fun j => j ≤ k ∧ ∀ i, i < j → (S.getD i default).2.2.2.length ≤ 80000) (fun j => k - j) rfl 0 ⟨Nat.zero_le _, fun i hi => absurd hi (Nat.not_lt_zero _)⟩ (Sub.cons rfl (Sub.cons rfl (Sub.cons rfl (Sub.cons rfl (Sub.cons rfl (Sub.cons rfl Sub.nil)))))) sub_st ?_
  rintro j ⟨hj, hok⟩ J hJ
  rcases Nat.lt_or_ge j k with hjl | hjl
  · have hneS := hneS (by omega)
    have hat := cellsL_at (f := sdc) sdc_len S default j (by omega)
    obtain ⟨s, hsj⟩ : ∃ s, S.getD j default = s := ⟨_, rfl⟩
    rw [hsj] at hat
    obtain ⟨to, D0, cd, bs⟩ := s
    by_cases h4 : 80000 < bs.length
    · focus (refine S_seq rfl ?_; refine S_region rfl rfl ?_; refine R_take (T_decT rfl (by omega)) ?_ rfl rfl; refine R_nil ?_; refine S_seq rfl ?_; refine S_true rfl rfl ?_; refine S_skip rfl ?_; refine S_seq rfl ?_; refine S_block rfl ?_; refine S_seq rfl ?_; refine S_region rfl rfl ?_; refine R_take (T_ixM (sz := 2) (q := j) rfl rfl rfl rfl rfl rfl hneS hjl) ?_ rfl rfl; refine R_take (T_lda (ds := sdc (to, D0, cd, bs)) rfl rfl rfl (Srd.old hSr (fun k _ => noOwns k)) rfl (by omega) hat) ?_ rfl rfl; (refine R_eff (E_alloca rfl sd_zero) ?_ rfl rfl; rintro _ _ ⟨b8, rfl, rfl⟩); (refine R_eff0 (E_storew (cs := sdc (0, none, 0, [])) (ds := sdc (to, D0, cd, bs)) rfl rfl rfl rfl (sdc_one _) rfl) ?_ rfl; rintro _ _ rfl); refine R_nil ?_; refine S_seq rfl ?_; refine S_region rfl rfl ?_; refine R_p rfl ?_ rfl rfl; refine R_take (T_load (v := .slice D0 bs.length cd) rfl rfl rfl rfl) ?_ rfl rfl; refine R_p rfl ?_ rfl rfl; refine R_take (T_decT rfl (by omega)) ?_ rfl rfl; refine R_nil ?_; refine S_true rfl rfl ?_; refine S_seq rfl ?_; refine S_region rfl rfl ?_; refine R_p rfl ?_ rfl rfl; refine R_nil ?_)
      exact hB _ _ _ _ _ rfl rfl fun w' hS => ⟨(), rfl, trivial, hS.sublist (List.nil_sublist _)⟩
    · focus (refine S_seq rfl ?_; refine S_region rfl rfl ?_; refine R_take (T_decT rfl (by omega)) ?_ rfl rfl; refine R_nil ?_; refine S_seq rfl ?_; refine S_true rfl rfl ?_; refine S_skip rfl ?_; refine S_seq rfl ?_; refine S_block rfl ?_; refine S_seq rfl ?_; refine S_region rfl rfl ?_; refine R_take (T_ixM (sz := 2) (q := j) rfl rfl rfl rfl rfl rfl hneS hjl) ?_ rfl rfl; refine R_take (T_lda (ds := sdc (to, D0, cd, bs)) rfl rfl rfl (Srd.old hSr (fun k _ => noOwns k)) rfl (by omega) hat) ?_ rfl rfl; (refine R_eff (E_alloca rfl sd_zero) ?_ rfl rfl; rintro _ _ ⟨b8, rfl, rfl⟩); (refine R_eff0 (E_storew (cs := sdc (0, none, 0, [])) (ds := sdc (to, D0, cd, bs)) rfl rfl rfl rfl (sdc_one _) rfl) ?_ rfl; rintro _ _ rfl); refine R_nil ?_; refine S_seq rfl ?_; refine S_region rfl rfl ?_; refine R_p rfl ?_ rfl rfl; refine R_take (T_load (v := .slice D0 bs.length cd) rfl rfl rfl rfl) ?_ rfl rfl; refine R_p rfl ?_ rfl rfl; refine R_take (T_decF rfl (by omega)) ?_ rfl rfl; refine R_nil ?_; refine S_false rfl rfl ?_; refine S_skip rfl ?_; refine RS_blk ?_; refine S_region rfl rfl ?_; refine R_take (T_addN rfl rfl (by unfold fits; omega)) ?_ rfl rfl; refine R_p rfl ?_ rfl rfl; refine R_nil ?_)
      refine hJ (j + 1) _ _ ⟨by omega, fun i hi => ?_⟩ (Sub.cons rfl (Sub.cons rfl (Sub.cons rfl (Sub.cons rfl (Sub.cons rfl (Sub.cons rfl Sub.nil)))))) sub_st (by omega)
      rcases Nat.lt_or_ge i j with h5 | h5
      · exact hok i h5
      · rw [show i = j by omega, hsj]
        show bs.length ≤ 80000
        omega
  have hjk : k = j := by omega
  subst hjk
  have hk1 : k ≤ 400 := by omega
  have hsS : ∀ s ∈ S, s.2.2.2.length ≤ 100000 := fun s hm0 => by
    obtain ⟨i, hi, rfl⟩ := List.getElem_of_mem hm0
    have := hok i (by omega)
    have e : S.getD i default = S[i] := by simp [List.getD, hi]
    rw [e] at this
    omega
  have hkk : ∀ m ∈ P, m.2.2.2.2.length ≤ 100000 := fun m hm => Nat.le_trans (hkt m hm) (by omega)
  have hWt : ∀ x ∈ W, x.2.2.length ≤ 100000 := fun x hx => by
    rw [← hW] at hx
    obtain ⟨m, hm, rfl⟩ := List.mem_map.1 hx
    exact hkk m hm
  obtain ⟨r, hr⟩ : ∃ r, (decide (W = V) && decide (C = D)) = r := ⟨_, rfl⟩
  clear hJ hlg1 hlg2
  cases hch : chkB W C
  · focus (refine S_seq rfl ?_; refine S_region rfl rfl ?_; refine R_take (T_decF rfl (by omega)) ?_ rfl rfl; refine R_nil ?_; refine S_seq rfl ?_; refine S_false rfl rfl ?_; refine S_exit rfl rfl ?_; refine S_seq rfl ?_)
    refine S_cut (X := Nat) (fun x => [(3, .pointer (some ⟨b3, 0, none⟩)), (4, .pointer (some ⟨b4, 0, none⟩)), (5, .pointer (some ⟨b5, 0, none⟩)), (9, .pointer (some ⟨x, 0, none⟩)), (10, .int .i64 330)]) (fun x => [pt b3 25 (ntc A n c A2 n2 c2'), pt b4 25 (ntc B1 m d B2 m2 d2), pt b5 44 ([.int .i64 fr, .slice SA k sc]), pt x 25 (ntc none 0 0 none 0 0)]) (fun _ => True) (fun J hJ => ?_) (fun x _ => ?_)
    · skip
      refine S_draw ([pt b3 25 (ntc A n c A2 n2 c2'), pt b5 44 ([.int .i64 fr, .slice SA k sc])]) sub_st (by kernel_rfl) rfl (by kernel_rfl) (by kernel_rfl : _ = 13) ?_
      refine D_take 0 rfl (T_loads (ds := ntc A n c A2 n2 c2') rfl rfl rfl rfl rfl) ?_ rfl rfl (by kernel_rfl) (by kernel_rfl)
      refine D_take 2 rfl (pev_ok rfl) ?_ rfl rfl (by kernel_rfl) (by kernel_rfl)
      refine D_take 3 rfl (T_load rfl rfl rfl rfl) ?_ rfl rfl (by kernel_rfl) (by kernel_rfl)
      refine D_take 4 rfl (pev_ok rfl) ?_ rfl rfl (by kernel_rfl) (by kernel_rfl)
      refine D_take 5 rfl (T_load rfl rfl rfl rfl) ?_ rfl rfl (by kernel_rfl) (by kernel_rfl)
      refine D_two 1 10 (by decide) rfl rfl (E_hvG (f := 11) ⟨_, Try.func11, rfl, by kernel_rfl⟩ (fun w hS => copyL_any w A c n P W hk hW ((Srd.old h (fun k _ => noOwns k)).rd w hS) A2 c2' n2 C hk2 ((Srd.old h2 (fun k _ => noOwns k)).rd w hS) (by omega) (by omega) ((SDt.old hd (fun k _ => noOwns k)).rd w hS) hkk) rfl rfl) (E_alloca rfl nt_zero) ?_ ?_ rfl rfl rfl rfl (by kernel_rfl)
      · rintro _ _ ⟨⟨⟨⟨A5, c5⟩, P5⟩, ⟨B5, d5⟩⟩, rfl, _, rfl⟩; dsimp only [List.cons_append, List.nil_append]
        refine Nx_same sub_st ?_
        refine D_two 6 10 (by decide) rfl rfl (E_hv0 (f := 20) ⟨_, Try.func20, rfl, by kernel_rfl⟩ (fun w hS => send_bad w A5 c5 n P5.1 W ((pk_len P5.2.1).trans hWn) P5.2.1 ((Srd.row (A := A5) (n := n) (c := c5)).rd w hS) B5 d5 n2 C hk2 ((Srd.row (A := B5) (n := n2) (c := d5)).rd w hS) (by omega) (by omega) fr SA k sc 330 (.inl ⟨hch, rfl⟩)) rfl rfl (fun _ => rfl)) (E_alloca rfl nt_zero) ?_ ?_ rfl rfl rfl rfl (by kernel_rfl)
        · rintro _ _ ⟨_, rfl, _, rfl⟩
          refine Nx_same sub_st ?_
          refine D_take 7 rfl (pev_ok rfl) ?_ rfl rfl (by kernel_rfl) (by kernel_rfl)
          refine D_take 8 rfl (pev_ok rfl) ?_ rfl rfl (by kernel_rfl) (by kernel_rfl)
          refine D_take 9 rfl (pev_ok rfl) ?_ rfl rfl (by kernel_rfl) (by kernel_rfl)
          refine D_one 10 rfl (E_alloca rfl nt_zero) ?_ rfl rfl (by kernel_rfl)
          rintro _ _ ⟨b9, rfl, rfl⟩
          refine Nx_same sub_st ?_
          refine D_one 11 rfl (E_storew (cs := ntc none 0 0 none 0 0) (ds := ntc none 0 0 none 0 0) rfl rfl rfl rfl (ntc_one _ _ _ _ _ _) rfl) ?_ rfl rfl (by kernel_rfl)
          rintro _ _ rfl
          refine Nx_same sub_st ?_
          refine D_take 12 rfl (pev_ok rfl) ?_ rfl rfl (by kernel_rfl) (by kernel_rfl)
          refine D_done ?_ (by kernel_rfl)
          (skip; exact hJ b9 _ _ trivial (Sub.cons rfl (Sub.cons rfl (Sub.cons rfl (Sub.cons rfl (Sub.cons rfl Sub.nil))))) sub_st)
        · rintro _ _ ⟨b9, rfl, rfl⟩
          refine Nx_same sub_st ?_
          refine D_one 6 rfl (E_hv0 (f := 20) ⟨_, Try.func20, rfl, by kernel_rfl⟩ (fun w hS => send_bad w A5 c5 n P5.1 W ((pk_len P5.2.1).trans hWn) P5.2.1 ((Srd.row (A := A5) (n := n) (c := c5)).rd w hS) B5 d5 n2 C hk2 ((Srd.row (A := B5) (n := n2) (c := d5)).rd w hS) (by omega) (by omega) fr SA k sc 330 (.inl ⟨hch, rfl⟩)) rfl rfl (fun _ => rfl)) ?_ rfl rfl (by kernel_rfl)
          rintro _ _ ⟨_, rfl, _, rfl⟩
          refine Nx_same sub_st ?_
          refine D_take 7 rfl (pev_ok rfl) ?_ rfl rfl (by kernel_rfl) (by kernel_rfl)
          refine D_take 8 rfl (pev_ok rfl) ?_ rfl rfl (by kernel_rfl) (by kernel_rfl)
          refine D_take 9 rfl (pev_ok rfl) ?_ rfl rfl (by kernel_rfl) (by kernel_rfl)
          refine D_one 11 rfl (E_storew (cs := ntc none 0 0 none 0 0) (ds := ntc none 0 0 none 0 0) rfl rfl rfl rfl (ntc_one _ _ _ _ _ _) rfl) ?_ rfl rfl (by kernel_rfl)
          rintro _ _ rfl
          refine Nx_same sub_st ?_
          refine D_take 12 rfl (pev_ok rfl) ?_ rfl rfl (by kernel_rfl) (by kernel_rfl)
          refine D_done ?_ (by kernel_rfl)
          (skip; exact hJ b9 _ _ trivial (Sub.cons rfl (Sub.cons rfl (Sub.cons rfl (Sub.cons rfl (Sub.cons rfl Sub.nil))))) sub_st)
      · rintro _ _ ⟨b9, rfl, rfl⟩
        refine Nx_same sub_st ?_
        refine D_one 1 rfl (E_hvG (f := 11) ⟨_, Try.func11, rfl, by kernel_rfl⟩ (fun w hS => copyL_any w A c n P W hk hW ((Srd.old h (fun k _ => noOwns k)).rd w hS) A2 c2' n2 C hk2 ((Srd.old h2 (fun k _ => noOwns k)).rd w hS) (by omega) (by omega) ((SDt.old hd (fun k _ => noOwns k)).rd w hS) hkk) rfl rfl) ?_ rfl rfl (by kernel_rfl)
        rintro _ _ ⟨⟨⟨⟨A5, c5⟩, P5⟩, ⟨B5, d5⟩⟩, rfl, _, rfl⟩; dsimp only [List.cons_append, List.nil_append]
        refine Nx_same sub_st ?_
        refine D_one 6 rfl (E_hv0 (f := 20) ⟨_, Try.func20, rfl, by kernel_rfl⟩ (fun w hS => send_bad w A5 c5 n P5.1 W ((pk_len P5.2.1).trans hWn) P5.2.1 ((Srd.row (A := A5) (n := n) (c := c5)).rd w hS) B5 d5 n2 C hk2 ((Srd.row (A := B5) (n := n2) (c := d5)).rd w hS) (by omega) (by omega) fr SA k sc 330 (.inl ⟨hch, rfl⟩)) rfl rfl (fun _ => rfl)) ?_ rfl rfl (by kernel_rfl)
        rintro _ _ ⟨_, rfl, _, rfl⟩
        refine Nx_same sub_st ?_
        refine D_take 7 rfl (pev_ok rfl) ?_ rfl rfl (by kernel_rfl) (by kernel_rfl)
        refine D_take 8 rfl (pev_ok rfl) ?_ rfl rfl (by kernel_rfl) (by kernel_rfl)
        refine D_take 9 rfl (pev_ok rfl) ?_ rfl rfl (by kernel_rfl) (by kernel_rfl)
        refine D_one 11 rfl (E_storew (cs := ntc none 0 0 none 0 0) (ds := ntc none 0 0 none 0 0) rfl rfl rfl rfl (ntc_one _ _ _ _ _ _) rfl) ?_ rfl rfl (by kernel_rfl)
        rintro _ _ rfl
        refine Nx_same sub_st ?_
        refine D_take 12 rfl (pev_ok rfl) ?_ rfl rfl (by kernel_rfl) (by kernel_rfl)
        refine D_done ?_ (by kernel_rfl)
        (skip; exact hJ b9 _ _ trivial (Sub.cons rfl (Sub.cons rfl (Sub.cons rfl (Sub.cons rfl (Sub.cons rfl Sub.nil))))) sub_st)
    obtain ⟨b9, rfl⟩ : ∃ b, b = x := ⟨_, rfl⟩
    focus (refine S_seq rfl ?_; refine S_seq rfl ?_)
    refine S_draw ([pt b3 25 (ntc A n c A2 n2 c2'), pt b4 25 (ntc B1 m d B2 m2 d2)]) sub_st (by kernel_rfl) rfl (by kernel_rfl) (by kernel_rfl : _ = 14) ?_
    refine D_take 0 rfl (T_loads (ds := ntc A n c A2 n2 c2') rfl rfl rfl rfl rfl) ?_ rfl rfl (by kernel_rfl) (by kernel_rfl)
    refine D_take 1 rfl (T_loads (ds := ntc B1 m d B2 m2 d2) rfl rfl rfl rfl rfl) ?_ rfl rfl (by kernel_rfl) (by kernel_rfl)
    refine D_take 3 rfl (T_loads (ds := ntc A n c A2 n2 c2') rfl rfl rfl rfl rfl) ?_ rfl rfl (by kernel_rfl) (by kernel_rfl)
    refine D_take 4 rfl (T_loads (ds := ntc B1 m d B2 m2 d2) rfl rfl rfl rfl rfl) ?_ rfl rfl (by kernel_rfl) (by kernel_rfl)
    refine D_one 2 rfl (E_hv0 (f := 21) ⟨_, Try.func21, rfl, by kernel_rfl⟩ (fun w hS => sameN_k w A c n P W hk hW ((Srd.old h (fun k _ => noOwns k)).rd w hS) A2 c2' n2 C hk2 ((Srd.old h2 (fun k _ => noOwns k)).rd w hS) B1 d m Q V hm hV ((Srd.old k1 (fun k _ => noOwns k)).rd w hS) B2 d2 m2 D hm2 ((Srd.old k2 (fun k _ => noOwns k)).rd w hS) (fun x hx => (Src.old (hp x hx) (fun k _ => noOwns k)).bs w hS) (fun x hx => (Src.old (hq x hx) (fun k _ => noOwns k)).bs w hS) (by omega) (by omega) (by omega) (by omega) r hr) rfl rfl (fun _ => rfl)) ?_ rfl rfl (by kernel_rfl)
    rintro _ _ ⟨_, rfl, _, rfl⟩
    refine Nx_same sub_st ?_
    refine D_one 5 rfl (E_hv0 (f := 19) ⟨_, Try.func19, rfl, by kernel_rfl⟩ (fun w hS => sameD_k w A c n P W hk hW ((Srd.old h (fun k _ => noOwns k)).rd w hS) A2 c2' n2 C hk2 ((Srd.old h2 (fun k _ => noOwns k)).rd w hS) B1 d m Q V hm hV ((Srd.old k1 (fun k _ => noOwns k)).rd w hS) B2 d2 m2 D hm2 ((Srd.old k2 (fun k _ => noOwns k)).rd w hS) (fun x hx => (Src.old (hp x hx) (fun k _ => noOwns k)).bs w hS) (fun x hx => (Src.old (hq x hx) (fun k _ => noOwns k)).bs w hS) (by omega) (by omega) (by omega) (by omega) r hr) rfl rfl (fun _ => rfl)) ?_ rfl rfl (by kernel_rfl)
    rintro _ _ ⟨_, rfl, _, rfl⟩
    refine Nx_same sub_st ?_
    (refine D_take 6 rfl (T_bnq (b := r) (c := r) (r := false) rfl rfl rfl rfl (by cases r <;> rfl; done)) ?_ rfl rfl (by kernel_rfl) (by kernel_rfl))
    refine D_take 7 rfl (pev_ok rfl) ?_ rfl rfl (by kernel_rfl) (by kernel_rfl)
    refine D_take 8 rfl (T_loads (ds := ntc A n c A2 n2 c2') rfl rfl rfl rfl rfl) ?_ rfl rfl (by kernel_rfl) (by kernel_rfl)
    refine D_take 9 rfl (T_loads (ds := ntc A n c A2 n2 c2') rfl rfl rfl rfl rfl) ?_ rfl rfl (by kernel_rfl) (by kernel_rfl)
    refine D_one 10 rfl (E_hvG (f := 11) ⟨_, Try.func11, rfl, by kernel_rfl⟩ (fun w hS => copyL_any w A c n P W hk hW ((Srd.old h (fun k _ => noOwns k)).rd w hS) A2 c2' n2 C hk2 ((Srd.old h2 (fun k _ => noOwns k)).rd w hS) (by omega) (by omega) ((SDt.old hd (fun k _ => noOwns k)).rd w hS) hkk) rfl rfl) ?_ rfl rfl (by kernel_rfl)
    rintro _ _ ⟨⟨⟨⟨A6, c6⟩, P6⟩, ⟨B6, d6⟩⟩, rfl, _, rfl⟩; dsimp only [List.cons_append, List.nil_append]
    refine Nx_same sub_st ?_
    refine D_one 11 rfl (E_hv0 (f := 21) ⟨_, Try.func21, rfl, by kernel_rfl⟩ (fun w hS => sameN_k w A c n P W hk hW ((Srd.old h (fun k _ => noOwns k)).rd w hS) A2 c2' n2 C hk2 ((Srd.old h2 (fun k _ => noOwns k)).rd w hS) A6 c6 n P6.1 W ((pk_len P6.2.1).trans hWn) P6.2.1 ((Srd.row (A := A6) (n := n) (c := c6)).rd w hS) B6 d6 n2 C hk2 ((Srd.row (A := B6) (n := n2) (c := d6)).rd w hS) (fun x hx => (Src.old (hp x hx) (fun k _ => noOwns k)).bs w hS) (fun m hm => dtB_bs (e := 5) (D := P6.1.map pkd) hS (by simp) (pkd m) (List.mem_map.2 ⟨m, hm, rfl⟩)) (by omega) (by omega) (by omega) (by omega) true (same_ttN _ _)) rfl rfl (fun _ => rfl)) ?_ rfl rfl (by kernel_rfl)
    rintro _ _ ⟨_, rfl, _, rfl⟩
    refine Nx_same sub_st ?_
    refine D_take 12 rfl (T_not rfl) ?_ rfl rfl (by kernel_rfl) (by kernel_rfl)
    refine D_take 13 rfl (pev_ok rfl) ?_ rfl rfl (by kernel_rfl) (by kernel_rfl)
    refine D_done ?_ (by kernel_rfl)
    skip
    focus (refine S_false rfl rfl ?_; refine S_skip rfl ?_; refine S_seq rfl ?_; refine S_seq rfl ?_; refine S_region rfl rfl ?_; refine R_take (T_loads (ds := ntc A n c A2 n2 c2') rfl rfl rfl rfl rfl) ?_ rfl rfl; (refine R_eff (E_hv0 (f := 16) ⟨_, Try.func16, rfl, by kernel_rfl⟩ (fun w hS => rightD_k w A c n P W hk hW ((Srd.old h (fun k _ => noOwns k)).rd w hS) A2 c2' n2 C hk2 ((Srd.old h2 (fun k _ => noOwns k)).rd w hS) (by omega) (by omega) false hch) rfl rfl (fun _ => rfl)) ?_ rfl rfl; rintro _ _ ⟨_, rfl, _, rfl⟩); refine R_take (T_not rfl) ?_ rfl rfl; refine R_nil ?_; refine S_true rfl rfl ?_; refine S_seq rfl ?_; refine S_region rfl rfl ?_; refine R_take (T_loads (ds := ntc none 0 0 none 0 0) rfl rfl rfl rfl rfl) ?_ rfl rfl; (refine R_eff (E_hv0 (f := 15) ⟨_, Try.func15, rfl, by kernel_rfl⟩ (fun w hS => none_k w none 0 0 [] [] rfl rfl rd_none3 none 0 0 [] rfl rd_none2 (fun m hm => absurd hm (by simp)) (by omega) (by omega) true rfl) rfl rfl (fun _ => rfl)) ?_ rfl rfl; rintro _ _ ⟨_, rfl, _, rfl⟩); refine R_take (T_decT rfl (by omega)) ?_ rfl rfl; refine R_p rfl ?_ rfl rfl; refine R_take (T_decT rfl (by omega)) ?_ rfl rfl; refine R_take (T_decT rfl (by omega)) ?_ rfl rfl; refine R_take (T_decT rfl (by omega)) ?_ rfl rfl; refine R_take (T_loads (ds := ntc A n c A2 n2 c2') rfl rfl rfl rfl rfl) ?_ rfl rfl; (refine R_eff (E_hvG (f := 11) ⟨_, Try.func11, rfl, by kernel_rfl⟩ (fun w hS => copyL_any w A c n P W hk hW ((Srd.old h (fun k _ => noOwns k)).rd w hS) A2 c2' n2 C hk2 ((Srd.old h2 (fun k _ => noOwns k)).rd w hS) (by omega) (by omega) ((SDt.old hd (fun k _ => noOwns k)).rd w hS) hkk) rfl rfl) ?_ rfl rfl; rintro _ _ ⟨⟨⟨⟨A9, c9⟩, P9⟩, ⟨B9, d9⟩⟩, rfl, _, rfl⟩; dsimp only [List.cons_append, List.nil_append]); (refine R_eff (E_hv0 (f := 22) ⟨_, Try.func22, rfl, by kernel_rfl⟩ (fun w hS => check_k w A9 c9 n P9.1 W ((pk_len P9.2.1).trans hWn) P9.2.1 ((Srd.row (A := A9) (n := n) (c := c9)).rd w hS) B9 d9 n2 C hk2 ((Srd.row (A := B9) (n := n2) (c := d9)).rd w hS) (by omega) (by omega) 330 (by rw [hch]; rfl)) rfl rfl (fun _ => rfl)) ?_ rfl rfl; rintro _ _ ⟨_, rfl, _, rfl⟩); refine R_take (T_decT rfl (by omega)) ?_ rfl rfl; refine R_take (T_decT rfl (by omega)) ?_ rfl rfl; refine R_take (T_decT rfl (by omega)) ?_ rfl rfl; refine R_nil ?_)
    exact hB _ _ _ _ _ rfl rfl fun w' hS => ⟨(), rfl, trivial, hS.sublist (List.nil_sublist _)⟩
  · have hcut : cutsB C C.length = true := by
      have hch := hch
      unfold chkB at hch
      rw [Bool.and_eq_true] at hch
      exact hch.2
    have hSL := sendW_le C fr (S.map sdv) W
    rw [List.length_map, hSk, hWn] at hSL
    cases hfr : nodeB fr
    · focus (refine S_seq rfl ?_; refine S_region rfl rfl ?_; refine R_take (T_decF rfl (by omega)) ?_ rfl rfl; refine R_nil ?_; refine S_seq rfl ?_; refine S_false rfl rfl ?_; refine S_exit rfl rfl ?_; refine S_seq rfl ?_)
      refine S_cut (X := Nat) (fun x => [(3, .pointer (some ⟨b3, 0, none⟩)), (4, .pointer (some ⟨b4, 0, none⟩)), (5, .pointer (some ⟨b5, 0, none⟩)), (9, .pointer (some ⟨x, 0, none⟩)), (10, .int .i64 2)]) (fun x => [pt b3 25 (ntc A n c A2 n2 c2'), pt b4 25 (ntc B1 m d B2 m2 d2), pt b5 44 ([.int .i64 fr, .slice SA k sc]), pt x 25 (ntc none 0 0 none 0 0)]) (fun _ => True) (fun J hJ => ?_) (fun x _ => ?_)
      · skip
        refine S_draw ([pt b3 25 (ntc A n c A2 n2 c2'), pt b5 44 ([.int .i64 fr, .slice SA k sc])]) sub_st (by kernel_rfl) rfl (by kernel_rfl) (by kernel_rfl : _ = 13) ?_
        refine D_take 0 rfl (T_loads (ds := ntc A n c A2 n2 c2') rfl rfl rfl rfl rfl) ?_ rfl rfl (by kernel_rfl) (by kernel_rfl)
        refine D_take 2 rfl (pev_ok rfl) ?_ rfl rfl (by kernel_rfl) (by kernel_rfl)
        refine D_take 3 rfl (T_load rfl rfl rfl rfl) ?_ rfl rfl (by kernel_rfl) (by kernel_rfl)
        refine D_take 4 rfl (pev_ok rfl) ?_ rfl rfl (by kernel_rfl) (by kernel_rfl)
        refine D_take 5 rfl (T_load rfl rfl rfl rfl) ?_ rfl rfl (by kernel_rfl) (by kernel_rfl)
        refine D_two 1 10 (by decide) rfl rfl (E_hvG (f := 11) ⟨_, Try.func11, rfl, by kernel_rfl⟩ (fun w hS => copyL_any w A c n P W hk hW ((Srd.old h (fun k _ => noOwns k)).rd w hS) A2 c2' n2 C hk2 ((Srd.old h2 (fun k _ => noOwns k)).rd w hS) (by omega) (by omega) ((SDt.old hd (fun k _ => noOwns k)).rd w hS) hkk) rfl rfl) (E_alloca rfl nt_zero) ?_ ?_ rfl rfl rfl rfl (by kernel_rfl)
        · rintro _ _ ⟨⟨⟨⟨A5, c5⟩, P5⟩, ⟨B5, d5⟩⟩, rfl, _, rfl⟩; dsimp only [List.cons_append, List.nil_append]
          refine Nx_same sub_st ?_
          refine D_two 6 10 (by decide) rfl rfl (E_hv0 (f := 20) ⟨_, Try.func20, rfl, by kernel_rfl⟩ (fun w hS => send_bad w A5 c5 n P5.1 W ((pk_len P5.2.1).trans hWn) P5.2.1 ((Srd.row (A := A5) (n := n) (c := c5)).rd w hS) B5 d5 n2 C hk2 ((Srd.row (A := B5) (n := n2) (c := d5)).rd w hS) (by omega) (by omega) fr SA k sc 2 (.inr ⟨hch, hfr, rfl⟩)) rfl rfl (fun _ => rfl)) (E_alloca rfl nt_zero) ?_ ?_ rfl rfl rfl rfl (by kernel_rfl)
          · rintro _ _ ⟨_, rfl, _, rfl⟩
            refine Nx_same sub_st ?_
            refine D_take 7 rfl (pev_ok rfl) ?_ rfl rfl (by kernel_rfl) (by kernel_rfl)
            refine D_take 8 rfl (pev_ok rfl) ?_ rfl rfl (by kernel_rfl) (by kernel_rfl)
            refine D_take 9 rfl (pev_ok rfl) ?_ rfl rfl (by kernel_rfl) (by kernel_rfl)
            refine D_one 10 rfl (E_alloca rfl nt_zero) ?_ rfl rfl (by kernel_rfl)
            rintro _ _ ⟨b9, rfl, rfl⟩
            refine Nx_same sub_st ?_
            refine D_one 11 rfl (E_storew (cs := ntc none 0 0 none 0 0) (ds := ntc none 0 0 none 0 0) rfl rfl rfl rfl (ntc_one _ _ _ _ _ _) rfl) ?_ rfl rfl (by kernel_rfl)
            rintro _ _ rfl
            refine Nx_same sub_st ?_
            refine D_take 12 rfl (pev_ok rfl) ?_ rfl rfl (by kernel_rfl) (by kernel_rfl)
            refine D_done ?_ (by kernel_rfl)
            (skip; exact hJ b9 _ _ trivial (Sub.cons rfl (Sub.cons rfl (Sub.cons rfl (Sub.cons rfl (Sub.cons rfl Sub.nil))))) sub_st)
          · rintro _ _ ⟨b9, rfl, rfl⟩
            refine Nx_same sub_st ?_
            refine D_one 6 rfl (E_hv0 (f := 20) ⟨_, Try.func20, rfl, by kernel_rfl⟩ (fun w hS => send_bad w A5 c5 n P5.1 W ((pk_len P5.2.1).trans hWn) P5.2.1 ((Srd.row (A := A5) (n := n) (c := c5)).rd w hS) B5 d5 n2 C hk2 ((Srd.row (A := B5) (n := n2) (c := d5)).rd w hS) (by omega) (by omega) fr SA k sc 2 (.inr ⟨hch, hfr, rfl⟩)) rfl rfl (fun _ => rfl)) ?_ rfl rfl (by kernel_rfl)
            rintro _ _ ⟨_, rfl, _, rfl⟩
            refine Nx_same sub_st ?_
            refine D_take 7 rfl (pev_ok rfl) ?_ rfl rfl (by kernel_rfl) (by kernel_rfl)
            refine D_take 8 rfl (pev_ok rfl) ?_ rfl rfl (by kernel_rfl) (by kernel_rfl)
            refine D_take 9 rfl (pev_ok rfl) ?_ rfl rfl (by kernel_rfl) (by kernel_rfl)
            refine D_one 11 rfl (E_storew (cs := ntc none 0 0 none 0 0) (ds := ntc none 0 0 none 0 0) rfl rfl rfl rfl (ntc_one _ _ _ _ _ _) rfl) ?_ rfl rfl (by kernel_rfl)
            rintro _ _ rfl
            refine Nx_same sub_st ?_
            refine D_take 12 rfl (pev_ok rfl) ?_ rfl rfl (by kernel_rfl) (by kernel_rfl)
            refine D_done ?_ (by kernel_rfl)
            (skip; exact hJ b9 _ _ trivial (Sub.cons rfl (Sub.cons rfl (Sub.cons rfl (Sub.cons rfl (Sub.cons rfl Sub.nil))))) sub_st)
        · rintro _ _ ⟨b9, rfl, rfl⟩
          refine Nx_same sub_st ?_
          refine D_one 1 rfl (E_hvG (f := 11) ⟨_, Try.func11, rfl, by kernel_rfl⟩ (fun w hS => copyL_any w A c n P W hk hW ((Srd.old h (fun k _ => noOwns k)).rd w hS) A2 c2' n2 C hk2 ((Srd.old h2 (fun k _ => noOwns k)).rd w hS) (by omega) (by omega) ((SDt.old hd (fun k _ => noOwns k)).rd w hS) hkk) rfl rfl) ?_ rfl rfl (by kernel_rfl)
          rintro _ _ ⟨⟨⟨⟨A5, c5⟩, P5⟩, ⟨B5, d5⟩⟩, rfl, _, rfl⟩; dsimp only [List.cons_append, List.nil_append]
          refine Nx_same sub_st ?_
          refine D_one 6 rfl (E_hv0 (f := 20) ⟨_, Try.func20, rfl, by kernel_rfl⟩ (fun w hS => send_bad w A5 c5 n P5.1 W ((pk_len P5.2.1).trans hWn) P5.2.1 ((Srd.row (A := A5) (n := n) (c := c5)).rd w hS) B5 d5 n2 C hk2 ((Srd.row (A := B5) (n := n2) (c := d5)).rd w hS) (by omega) (by omega) fr SA k sc 2 (.inr ⟨hch, hfr, rfl⟩)) rfl rfl (fun _ => rfl)) ?_ rfl rfl (by kernel_rfl)
          rintro _ _ ⟨_, rfl, _, rfl⟩
          refine Nx_same sub_st ?_
          refine D_take 7 rfl (pev_ok rfl) ?_ rfl rfl (by kernel_rfl) (by kernel_rfl)
          refine D_take 8 rfl (pev_ok rfl) ?_ rfl rfl (by kernel_rfl) (by kernel_rfl)
          refine D_take 9 rfl (pev_ok rfl) ?_ rfl rfl (by kernel_rfl) (by kernel_rfl)
          refine D_one 11 rfl (E_storew (cs := ntc none 0 0 none 0 0) (ds := ntc none 0 0 none 0 0) rfl rfl rfl rfl (ntc_one _ _ _ _ _ _) rfl) ?_ rfl rfl (by kernel_rfl)
          rintro _ _ rfl
          refine Nx_same sub_st ?_
          refine D_take 12 rfl (pev_ok rfl) ?_ rfl rfl (by kernel_rfl) (by kernel_rfl)
          refine D_done ?_ (by kernel_rfl)
          (skip; exact hJ b9 _ _ trivial (Sub.cons rfl (Sub.cons rfl (Sub.cons rfl (Sub.cons rfl (Sub.cons rfl Sub.nil))))) sub_st)
      obtain ⟨b9, rfl⟩ : ∃ b, b = x := ⟨_, rfl⟩
      focus (refine S_seq rfl ?_; refine S_seq rfl ?_)
      refine S_draw ([pt b3 25 (ntc A n c A2 n2 c2'), pt b4 25 (ntc B1 m d B2 m2 d2)]) sub_st (by kernel_rfl) rfl (by kernel_rfl) (by kernel_rfl : _ = 14) ?_
      refine D_take 0 rfl (T_loads (ds := ntc A n c A2 n2 c2') rfl rfl rfl rfl rfl) ?_ rfl rfl (by kernel_rfl) (by kernel_rfl)
      refine D_take 1 rfl (T_loads (ds := ntc B1 m d B2 m2 d2) rfl rfl rfl rfl rfl) ?_ rfl rfl (by kernel_rfl) (by kernel_rfl)
      refine D_take 3 rfl (T_loads (ds := ntc A n c A2 n2 c2') rfl rfl rfl rfl rfl) ?_ rfl rfl (by kernel_rfl) (by kernel_rfl)
      refine D_take 4 rfl (T_loads (ds := ntc B1 m d B2 m2 d2) rfl rfl rfl rfl rfl) ?_ rfl rfl (by kernel_rfl) (by kernel_rfl)
      refine D_one 2 rfl (E_hv0 (f := 21) ⟨_, Try.func21, rfl, by kernel_rfl⟩ (fun w hS => sameN_k w A c n P W hk hW ((Srd.old h (fun k _ => noOwns k)).rd w hS) A2 c2' n2 C hk2 ((Srd.old h2 (fun k _ => noOwns k)).rd w hS) B1 d m Q V hm hV ((Srd.old k1 (fun k _ => noOwns k)).rd w hS) B2 d2 m2 D hm2 ((Srd.old k2 (fun k _ => noOwns k)).rd w hS) (fun x hx => (Src.old (hp x hx) (fun k _ => noOwns k)).bs w hS) (fun x hx => (Src.old (hq x hx) (fun k _ => noOwns k)).bs w hS) (by omega) (by omega) (by omega) (by omega) r hr) rfl rfl (fun _ => rfl)) ?_ rfl rfl (by kernel_rfl)
      rintro _ _ ⟨_, rfl, _, rfl⟩
      refine Nx_same sub_st ?_
      refine D_one 5 rfl (E_hv0 (f := 19) ⟨_, Try.func19, rfl, by kernel_rfl⟩ (fun w hS => sameD_k w A c n P W hk hW ((Srd.old h (fun k _ => noOwns k)).rd w hS) A2 c2' n2 C hk2 ((Srd.old h2 (fun k _ => noOwns k)).rd w hS) B1 d m Q V hm hV ((Srd.old k1 (fun k _ => noOwns k)).rd w hS) B2 d2 m2 D hm2 ((Srd.old k2 (fun k _ => noOwns k)).rd w hS) (fun x hx => (Src.old (hp x hx) (fun k _ => noOwns k)).bs w hS) (fun x hx => (Src.old (hq x hx) (fun k _ => noOwns k)).bs w hS) (by omega) (by omega) (by omega) (by omega) r hr) rfl rfl (fun _ => rfl)) ?_ rfl rfl (by kernel_rfl)
      rintro _ _ ⟨_, rfl, _, rfl⟩
      refine Nx_same sub_st ?_
      (refine D_take 6 rfl (T_bnq (b := r) (c := r) (r := false) rfl rfl rfl rfl (by cases r <;> rfl; done)) ?_ rfl rfl (by kernel_rfl) (by kernel_rfl))
      refine D_take 7 rfl (pev_ok rfl) ?_ rfl rfl (by kernel_rfl) (by kernel_rfl)
      refine D_take 8 rfl (T_loads (ds := ntc A n c A2 n2 c2') rfl rfl rfl rfl rfl) ?_ rfl rfl (by kernel_rfl) (by kernel_rfl)
      refine D_take 9 rfl (T_loads (ds := ntc A n c A2 n2 c2') rfl rfl rfl rfl rfl) ?_ rfl rfl (by kernel_rfl) (by kernel_rfl)
      refine D_one 10 rfl (E_hvG (f := 11) ⟨_, Try.func11, rfl, by kernel_rfl⟩ (fun w hS => copyL_any w A c n P W hk hW ((Srd.old h (fun k _ => noOwns k)).rd w hS) A2 c2' n2 C hk2 ((Srd.old h2 (fun k _ => noOwns k)).rd w hS) (by omega) (by omega) ((SDt.old hd (fun k _ => noOwns k)).rd w hS) hkk) rfl rfl) ?_ rfl rfl (by kernel_rfl)
      rintro _ _ ⟨⟨⟨⟨A6, c6⟩, P6⟩, ⟨B6, d6⟩⟩, rfl, _, rfl⟩; dsimp only [List.cons_append, List.nil_append]
      refine Nx_same sub_st ?_
      refine D_one 11 rfl (E_hv0 (f := 21) ⟨_, Try.func21, rfl, by kernel_rfl⟩ (fun w hS => sameN_k w A c n P W hk hW ((Srd.old h (fun k _ => noOwns k)).rd w hS) A2 c2' n2 C hk2 ((Srd.old h2 (fun k _ => noOwns k)).rd w hS) A6 c6 n P6.1 W ((pk_len P6.2.1).trans hWn) P6.2.1 ((Srd.row (A := A6) (n := n) (c := c6)).rd w hS) B6 d6 n2 C hk2 ((Srd.row (A := B6) (n := n2) (c := d6)).rd w hS) (fun x hx => (Src.old (hp x hx) (fun k _ => noOwns k)).bs w hS) (fun m hm => dtB_bs (e := 5) (D := P6.1.map pkd) hS (by simp) (pkd m) (List.mem_map.2 ⟨m, hm, rfl⟩)) (by omega) (by omega) (by omega) (by omega) true (same_ttN _ _)) rfl rfl (fun _ => rfl)) ?_ rfl rfl (by kernel_rfl)
      rintro _ _ ⟨_, rfl, _, rfl⟩
      refine Nx_same sub_st ?_
      refine D_take 12 rfl (T_not rfl) ?_ rfl rfl (by kernel_rfl) (by kernel_rfl)
      refine D_take 13 rfl (pev_ok rfl) ?_ rfl rfl (by kernel_rfl) (by kernel_rfl)
      refine D_done ?_ (by kernel_rfl)
      skip
      have h18 : fr < 1 ∨ 8 < fr := by unfold nodeB at hfr; rw [Bool.and_eq_false_iff, decide_eq_false_iff_not, decide_eq_false_iff_not] at hfr; omega
      by_cases h1 : fr < 1
      · focus (refine S_false rfl rfl ?_; refine S_skip rfl ?_; refine S_seq rfl ?_; refine S_seq rfl ?_; refine S_region rfl rfl ?_; refine R_take (T_loads (ds := ntc A n c A2 n2 c2') rfl rfl rfl rfl rfl) ?_ rfl rfl; (refine R_eff (E_hv0 (f := 16) ⟨_, Try.func16, rfl, by kernel_rfl⟩ (fun w hS => rightD_k w A c n P W hk hW ((Srd.old h (fun k _ => noOwns k)).rd w hS) A2 c2' n2 C hk2 ((Srd.old h2 (fun k _ => noOwns k)).rd w hS) (by omega) (by omega) true hch) rfl rfl (fun _ => rfl)) ?_ rfl rfl; rintro _ _ ⟨_, rfl, _, rfl⟩); refine R_take (T_not rfl) ?_ rfl rfl; refine R_nil ?_; refine S_false rfl rfl ?_; refine S_skip rfl ?_; refine S_seq rfl ?_; refine S_seq rfl ?_; refine S_region rfl rfl ?_; refine R_take (T_loads (ds := ntc A n c A2 n2 c2') rfl rfl rfl rfl rfl) ?_ rfl rfl; (refine R_eff (E_hvG (f := 11) ⟨_, Try.func11, rfl, by kernel_rfl⟩ (fun w hS => copyL_any w A c n P W hk hW ((Srd.old h (fun k _ => noOwns k)).rd w hS) A2 c2' n2 C hk2 ((Srd.old h2 (fun k _ => noOwns k)).rd w hS) (by omega) (by omega) ((SDt.old hd (fun k _ => noOwns k)).rd w hS) hkk) rfl rfl) ?_ rfl rfl; rintro _ _ ⟨⟨⟨⟨A9, c9⟩, P9⟩, ⟨B9, d9⟩⟩, rfl, _, rfl⟩; dsimp only [List.cons_append, List.nil_append]); (refine R_eff (E_hv0 (f := 22) ⟨_, Try.func22, rfl, by kernel_rfl⟩ (fun w hS => check_k w A9 c9 n P9.1 W ((pk_len P9.2.1).trans hWn) P9.2.1 ((Srd.row (A := A9) (n := n) (c := c9)).rd w hS) B9 d9 n2 C hk2 ((Srd.row (A := B9) (n := n2) (c := d9)).rd w hS) (by omega) (by omega) 0 (by rw [hch]; rfl)) rfl rfl (fun _ => rfl)) ?_ rfl rfl; rintro _ _ ⟨_, rfl, _, rfl⟩); refine R_take (T_decF rfl (by omega)) ?_ rfl rfl; refine R_nil ?_; refine S_false rfl rfl ?_; refine S_skip rfl ?_; refine S_seq rfl ?_; refine S_seq rfl ?_; refine S_region rfl rfl ?_; refine R_p rfl ?_ rfl rfl; refine R_take (T_load rfl rfl rfl rfl) ?_ rfl rfl; refine R_take (T_decT rfl (by omega)) ?_ rfl rfl; refine R_take (T_decT rfl (by omega)) ?_ rfl rfl; refine R_skip ?_ rfl rfl; refine R_skip ?_ rfl rfl; refine R_skip ?_ rfl rfl; refine R_take (T_decT rfl (by omega)) ?_ rfl rfl; refine R_nil ?_; refine S_true rfl rfl ?_; refine S_seq rfl ?_; refine S_region rfl rfl ?_; refine R_take (T_loads (ds := ntc none 0 0 none 0 0) rfl rfl rfl rfl rfl) ?_ rfl rfl; (refine R_eff (E_hv0 (f := 15) ⟨_, Try.func15, rfl, by kernel_rfl⟩ (fun w hS => none_k w none 0 0 [] [] rfl rfl rd_none3 none 0 0 [] rfl rd_none2 (fun m hm => absurd hm (by simp)) (by omega) (by omega) true rfl) rfl rfl (fun _ => rfl)) ?_ rfl rfl; rintro _ _ ⟨_, rfl, _, rfl⟩); refine R_take (T_decT rfl (by omega)) ?_ rfl rfl; refine R_p rfl ?_ rfl rfl; refine R_take (T_decT rfl (by omega)) ?_ rfl rfl; refine R_take (T_decT rfl (by omega)) ?_ rfl rfl; refine R_take (T_decT rfl (by omega)) ?_ rfl rfl; refine R_nil ?_)
        exact hB _ _ _ _ _ rfl rfl fun w' hS => ⟨(), rfl, trivial, hS.sublist (List.nil_sublist _)⟩
      · focus (refine S_false rfl rfl ?_; refine S_skip rfl ?_; refine S_seq rfl ?_; refine S_seq rfl ?_; refine S_region rfl rfl ?_; refine R_take (T_loads (ds := ntc A n c A2 n2 c2') rfl rfl rfl rfl rfl) ?_ rfl rfl; (refine R_eff (E_hv0 (f := 16) ⟨_, Try.func16, rfl, by kernel_rfl⟩ (fun w hS => rightD_k w A c n P W hk hW ((Srd.old h (fun k _ => noOwns k)).rd w hS) A2 c2' n2 C hk2 ((Srd.old h2 (fun k _ => noOwns k)).rd w hS) (by omega) (by omega) true hch) rfl rfl (fun _ => rfl)) ?_ rfl rfl; rintro _ _ ⟨_, rfl, _, rfl⟩); refine R_take (T_not rfl) ?_ rfl rfl; refine R_nil ?_; refine S_false rfl rfl ?_; refine S_skip rfl ?_; refine S_seq rfl ?_; refine S_seq rfl ?_; refine S_region rfl rfl ?_; refine R_take (T_loads (ds := ntc A n c A2 n2 c2') rfl rfl rfl rfl rfl) ?_ rfl rfl; (refine R_eff (E_hvG (f := 11) ⟨_, Try.func11, rfl, by kernel_rfl⟩ (fun w hS => copyL_any w A c n P W hk hW ((Srd.old h (fun k _ => noOwns k)).rd w hS) A2 c2' n2 C hk2 ((Srd.old h2 (fun k _ => noOwns k)).rd w hS) (by omega) (by omega) ((SDt.old hd (fun k _ => noOwns k)).rd w hS) hkk) rfl rfl) ?_ rfl rfl; rintro _ _ ⟨⟨⟨⟨A9, c9⟩, P9⟩, ⟨B9, d9⟩⟩, rfl, _, rfl⟩; dsimp only [List.cons_append, List.nil_append]); (refine R_eff (E_hv0 (f := 22) ⟨_, Try.func22, rfl, by kernel_rfl⟩ (fun w hS => check_k w A9 c9 n P9.1 W ((pk_len P9.2.1).trans hWn) P9.2.1 ((Srd.row (A := A9) (n := n) (c := c9)).rd w hS) B9 d9 n2 C hk2 ((Srd.row (A := B9) (n := n2) (c := d9)).rd w hS) (by omega) (by omega) 0 (by rw [hch]; rfl)) rfl rfl (fun _ => rfl)) ?_ rfl rfl; rintro _ _ ⟨_, rfl, _, rfl⟩); refine R_take (T_decF rfl (by omega)) ?_ rfl rfl; refine R_nil ?_; refine S_false rfl rfl ?_; refine S_skip rfl ?_; refine S_seq rfl ?_; refine S_seq rfl ?_; refine S_region rfl rfl ?_; refine R_p rfl ?_ rfl rfl; refine R_take (T_load rfl rfl rfl rfl) ?_ rfl rfl; refine R_take (T_decF rfl (by omega)) ?_ rfl rfl; refine R_p rfl ?_ rfl rfl; refine R_p rfl ?_ rfl rfl; refine R_take (T_load rfl rfl rfl rfl) ?_ rfl rfl; refine R_take (T_decT rfl (by omega)) ?_ rfl rfl; refine R_take (T_decT rfl (by omega)) ?_ rfl rfl; refine R_nil ?_; refine S_true rfl rfl ?_; refine S_seq rfl ?_; refine S_region rfl rfl ?_; refine R_take (T_loads (ds := ntc none 0 0 none 0 0) rfl rfl rfl rfl rfl) ?_ rfl rfl; (refine R_eff (E_hv0 (f := 15) ⟨_, Try.func15, rfl, by kernel_rfl⟩ (fun w hS => none_k w none 0 0 [] [] rfl rfl rd_none3 none 0 0 [] rfl rd_none2 (fun m hm => absurd hm (by simp)) (by omega) (by omega) true rfl) rfl rfl (fun _ => rfl)) ?_ rfl rfl; rintro _ _ ⟨_, rfl, _, rfl⟩); refine R_take (T_decT rfl (by omega)) ?_ rfl rfl; refine R_p rfl ?_ rfl rfl; refine R_take (T_decT rfl (by omega)) ?_ rfl rfl; refine R_take (T_decT rfl (by omega)) ?_ rfl rfl; refine R_take (T_decT rfl (by omega)) ?_ rfl rfl; refine R_nil ?_)
        exact hB _ _ _ _ _ rfl rfl fun w' hS => ⟨(), rfl, trivial, hS.sublist (List.nil_sublist _)⟩
    · focus (refine S_seq rfl ?_; refine S_region rfl rfl ?_; refine R_take (T_decF rfl (by omega)) ?_ rfl rfl; refine R_nil ?_; refine S_seq rfl ?_; refine S_false rfl rfl ?_; refine S_exit rfl rfl ?_; refine S_seq rfl ?_)
      refine S_cut (X := Nat × ((Option Addr × Nat) × ShP (sendW C fr W (S.map sdv)) × (Option Addr × Nat))) (fun x => [(3, .pointer (some ⟨b3, 0, none⟩)), (4, .pointer (some ⟨b4, 0, none⟩)), (5, .pointer (some ⟨b5, 0, none⟩)), (9, .pointer (some ⟨x.1, 0, none⟩)), (10, .int .i64 0)]) (fun x => [pt b3 25 (ntc A n c A2 n2 c2'), pt b4 25 (ntc B1 m d B2 m2 d2), pt b5 44 ([.int .i64 fr, .slice SA k sc]), pt x.1 25 (ntc x.2.1.1 (sendW C fr W (S.map sdv)).length x.2.1.2 x.2.2.2.1 n2 x.2.2.2.2), row 30 3 x.2.1.1 (sendW C fr W (S.map sdv)).length x.2.1.2 (cellsL pkc x.2.2.1.1), dtB 5 (x.2.2.1.1.map pkd), row 73 2 x.2.2.2.1 n2 x.2.2.2.2 (cellsL ctc C)]) (fun _ => True) (fun J hJ => ?_) (fun x _ => ?_)
      · skip
        refine S_draw ([pt b3 25 (ntc A n c A2 n2 c2'), pt b5 44 ([.int .i64 fr, .slice SA k sc])]) sub_st (by kernel_rfl) rfl (by kernel_rfl) (by kernel_rfl : _ = 13) ?_
        refine D_take 0 rfl (T_loads (ds := ntc A n c A2 n2 c2') rfl rfl rfl rfl rfl) ?_ rfl rfl (by kernel_rfl) (by kernel_rfl)
        refine D_take 2 rfl (pev_ok rfl) ?_ rfl rfl (by kernel_rfl) (by kernel_rfl)
        refine D_take 3 rfl (T_load rfl rfl rfl rfl) ?_ rfl rfl (by kernel_rfl) (by kernel_rfl)
        refine D_take 4 rfl (pev_ok rfl) ?_ rfl rfl (by kernel_rfl) (by kernel_rfl)
        refine D_take 5 rfl (T_load rfl rfl rfl rfl) ?_ rfl rfl (by kernel_rfl) (by kernel_rfl)
        refine D_two 1 10 (by decide) rfl rfl (E_hvG (f := 11) ⟨_, Try.func11, rfl, by kernel_rfl⟩ (fun w hS => copyL_any w A c n P W hk hW ((Srd.old h (fun k _ => noOwns k)).rd w hS) A2 c2' n2 C hk2 ((Srd.old h2 (fun k _ => noOwns k)).rd w hS) (by omega) (by omega) ((SDt.old hd (fun k _ => noOwns k)).rd w hS) hkk) rfl rfl) (E_alloca rfl nt_zero) ?_ ?_ rfl rfl rfl rfl (by kernel_rfl)
        · rintro _ _ ⟨⟨⟨⟨A5, c5⟩, P5⟩, ⟨B5, d5⟩⟩, rfl, _, rfl⟩; dsimp only [List.cons_append, List.nil_append]
          refine Nx_same sub_st ?_
          refine D_two 6 10 (by decide) rfl rfl (E_hvG (f := 20) ⟨_, Try.func20, rfl, by kernel_rfl⟩ (fun w hS => send_ok w A5 c5 n P5.1 W ((pk_len P5.2.1).trans hWn) P5.2.1 ((Srd.row (A := A5) (n := n) (c := c5)).rd w hS) B5 d5 n2 C hk2 ((Srd.row (A := B5) (n := n2) (c := d5)).rd w hS) (by omega) (by omega) ((SDt.own (e := 5) (D := P5.1.map pkd) (by simp)).rd w hS) (pk_txt P5.2.1 hWt) hch fr hfr SA sc k S hSk ((Srd.old hSr (fun k _ => noOwns k)).rd w hS) ((SDt.old hSd (fun k _ => noOwns k)).rd w hS) hk1 hsS) rfl rfl) (E_alloca rfl nt_zero) ?_ ?_ rfl rfl rfl rfl (by kernel_rfl)
          · rintro _ _ ⟨⟨⟨A7, c7⟩, P7, ⟨B7, d7⟩⟩, rfl, _, rfl⟩; dsimp only [List.cons_append, List.nil_append]
            refine Nx_same sub_st ?_
            refine D_take 7 rfl (pev_ok rfl) ?_ rfl rfl (by kernel_rfl) (by kernel_rfl)
            refine D_take 8 rfl (pev_ok rfl) ?_ rfl rfl (by kernel_rfl) (by kernel_rfl)
            refine D_take 9 rfl (pev_ok rfl) ?_ rfl rfl (by kernel_rfl) (by kernel_rfl)
            refine D_one 10 rfl (E_alloca rfl nt_zero) ?_ rfl rfl (by kernel_rfl)
            rintro _ _ ⟨b9, rfl, rfl⟩
            refine Nx_same sub_st ?_
            refine D_one 11 rfl (E_storew (cs := ntc none 0 0 none 0 0) (ds := ntc A7 (sendW C fr W (S.map sdv)).length c7 B7 n2 d7) rfl rfl rfl rfl (ntc_one _ _ _ _ _ _) rfl) ?_ rfl rfl (by kernel_rfl)
            rintro _ _ rfl
            refine Nx_same sub_st ?_
            refine D_take 12 rfl (pev_ok rfl) ?_ rfl rfl (by kernel_rfl) (by kernel_rfl)
            refine D_done ?_ (by kernel_rfl)
            (skip; exact hJ (b9, ((A7, c7), P7, (B7, d7))) _ _ trivial (Sub.cons rfl (Sub.cons rfl (Sub.cons rfl (Sub.cons rfl (Sub.cons rfl Sub.nil))))) sub_st)
          · rintro _ _ ⟨b9, rfl, rfl⟩
            refine Nx_same sub_st ?_
            refine D_one 6 rfl (E_hvG (f := 20) ⟨_, Try.func20, rfl, by kernel_rfl⟩ (fun w hS => send_ok w A5 c5 n P5.1 W ((pk_len P5.2.1).trans hWn) P5.2.1 ((Srd.row (A := A5) (n := n) (c := c5)).rd w hS) B5 d5 n2 C hk2 ((Srd.row (A := B5) (n := n2) (c := d5)).rd w hS) (by omega) (by omega) ((SDt.own (e := 5) (D := P5.1.map pkd) (by simp)).rd w hS) (pk_txt P5.2.1 hWt) hch fr hfr SA sc k S hSk ((Srd.old hSr (fun k _ => noOwns k)).rd w hS) ((SDt.old hSd (fun k _ => noOwns k)).rd w hS) hk1 hsS) rfl rfl) ?_ rfl rfl (by kernel_rfl)
            rintro _ _ ⟨⟨⟨A7, c7⟩, P7, ⟨B7, d7⟩⟩, rfl, _, rfl⟩; dsimp only [List.cons_append, List.nil_append]
            refine Nx_same sub_st ?_
            refine D_take 7 rfl (pev_ok rfl) ?_ rfl rfl (by kernel_rfl) (by kernel_rfl)
            refine D_take 8 rfl (pev_ok rfl) ?_ rfl rfl (by kernel_rfl) (by kernel_rfl)
            refine D_take 9 rfl (pev_ok rfl) ?_ rfl rfl (by kernel_rfl) (by kernel_rfl)
            refine D_one 11 rfl (E_storew (cs := ntc none 0 0 none 0 0) (ds := ntc A7 (sendW C fr W (S.map sdv)).length c7 B7 n2 d7) rfl rfl rfl rfl (ntc_one _ _ _ _ _ _) rfl) ?_ rfl rfl (by kernel_rfl)
            rintro _ _ rfl
            refine Nx_same sub_st ?_
            refine D_take 12 rfl (pev_ok rfl) ?_ rfl rfl (by kernel_rfl) (by kernel_rfl)
            refine D_done ?_ (by kernel_rfl)
            (skip; exact hJ (b9, ((A7, c7), P7, (B7, d7))) _ _ trivial (Sub.cons rfl (Sub.cons rfl (Sub.cons rfl (Sub.cons rfl (Sub.cons rfl Sub.nil))))) sub_st)
        · rintro _ _ ⟨b9, rfl, rfl⟩
          refine Nx_same sub_st ?_
          refine D_one 1 rfl (E_hvG (f := 11) ⟨_, Try.func11, rfl, by kernel_rfl⟩ (fun w hS => copyL_any w A c n P W hk hW ((Srd.old h (fun k _ => noOwns k)).rd w hS) A2 c2' n2 C hk2 ((Srd.old h2 (fun k _ => noOwns k)).rd w hS) (by omega) (by omega) ((SDt.old hd (fun k _ => noOwns k)).rd w hS) hkk) rfl rfl) ?_ rfl rfl (by kernel_rfl)
          rintro _ _ ⟨⟨⟨⟨A5, c5⟩, P5⟩, ⟨B5, d5⟩⟩, rfl, _, rfl⟩; dsimp only [List.cons_append, List.nil_append]
          refine Nx_same sub_st ?_
          refine D_one 6 rfl (E_hvG (f := 20) ⟨_, Try.func20, rfl, by kernel_rfl⟩ (fun w hS => send_ok w A5 c5 n P5.1 W ((pk_len P5.2.1).trans hWn) P5.2.1 ((Srd.row (A := A5) (n := n) (c := c5)).rd w hS) B5 d5 n2 C hk2 ((Srd.row (A := B5) (n := n2) (c := d5)).rd w hS) (by omega) (by omega) ((SDt.own (e := 5) (D := P5.1.map pkd) (by simp)).rd w hS) (pk_txt P5.2.1 hWt) hch fr hfr SA sc k S hSk ((Srd.old hSr (fun k _ => noOwns k)).rd w hS) ((SDt.old hSd (fun k _ => noOwns k)).rd w hS) hk1 hsS) rfl rfl) ?_ rfl rfl (by kernel_rfl)
          rintro _ _ ⟨⟨⟨A7, c7⟩, P7, ⟨B7, d7⟩⟩, rfl, _, rfl⟩; dsimp only [List.cons_append, List.nil_append]
          refine Nx_same sub_st ?_
          refine D_take 7 rfl (pev_ok rfl) ?_ rfl rfl (by kernel_rfl) (by kernel_rfl)
          refine D_take 8 rfl (pev_ok rfl) ?_ rfl rfl (by kernel_rfl) (by kernel_rfl)
          refine D_take 9 rfl (pev_ok rfl) ?_ rfl rfl (by kernel_rfl) (by kernel_rfl)
          refine D_one 11 rfl (E_storew (cs := ntc none 0 0 none 0 0) (ds := ntc A7 (sendW C fr W (S.map sdv)).length c7 B7 n2 d7) rfl rfl rfl rfl (ntc_one _ _ _ _ _ _) rfl) ?_ rfl rfl (by kernel_rfl)
          rintro _ _ rfl
          refine Nx_same sub_st ?_
          refine D_take 12 rfl (pev_ok rfl) ?_ rfl rfl (by kernel_rfl) (by kernel_rfl)
          refine D_done ?_ (by kernel_rfl)
          (skip; exact hJ (b9, ((A7, c7), P7, (B7, d7))) _ _ trivial (Sub.cons rfl (Sub.cons rfl (Sub.cons rfl (Sub.cons rfl (Sub.cons rfl Sub.nil))))) sub_st)
      obtain ⟨b9, ⟨⟨A7, c7⟩, P7, ⟨B7, d7⟩⟩⟩ := x
      dsimp only
      focus (refine S_seq rfl ?_; refine S_seq rfl ?_)
      refine S_draw ([pt b3 25 (ntc A n c A2 n2 c2'), pt b4 25 (ntc B1 m d B2 m2 d2)]) sub_st (by kernel_rfl) rfl (by kernel_rfl) (by kernel_rfl : _ = 14) ?_
      refine D_take 0 rfl (T_loads (ds := ntc A n c A2 n2 c2') rfl rfl rfl rfl rfl) ?_ rfl rfl (by kernel_rfl) (by kernel_rfl)
      refine D_take 1 rfl (T_loads (ds := ntc B1 m d B2 m2 d2) rfl rfl rfl rfl rfl) ?_ rfl rfl (by kernel_rfl) (by kernel_rfl)
      refine D_take 3 rfl (T_loads (ds := ntc A n c A2 n2 c2') rfl rfl rfl rfl rfl) ?_ rfl rfl (by kernel_rfl) (by kernel_rfl)
      refine D_take 4 rfl (T_loads (ds := ntc B1 m d B2 m2 d2) rfl rfl rfl rfl rfl) ?_ rfl rfl (by kernel_rfl) (by kernel_rfl)
      refine D_one 2 rfl (E_hv0 (f := 21) ⟨_, Try.func21, rfl, by kernel_rfl⟩ (fun w hS => sameN_k w A c n P W hk hW ((Srd.old h (fun k _ => noOwns k)).rd w hS) A2 c2' n2 C hk2 ((Srd.old h2 (fun k _ => noOwns k)).rd w hS) B1 d m Q V hm hV ((Srd.old k1 (fun k _ => noOwns k)).rd w hS) B2 d2 m2 D hm2 ((Srd.old k2 (fun k _ => noOwns k)).rd w hS) (fun x hx => (Src.old (hp x hx) (fun k _ => noOwns k)).bs w hS) (fun x hx => (Src.old (hq x hx) (fun k _ => noOwns k)).bs w hS) (by omega) (by omega) (by omega) (by omega) r hr) rfl rfl (fun _ => rfl)) ?_ rfl rfl (by kernel_rfl)
      rintro _ _ ⟨_, rfl, _, rfl⟩
      refine Nx_same sub_st ?_
      refine D_one 5 rfl (E_hv0 (f := 19) ⟨_, Try.func19, rfl, by kernel_rfl⟩ (fun w hS => sameD_k w A c n P W hk hW ((Srd.old h (fun k _ => noOwns k)).rd w hS) A2 c2' n2 C hk2 ((Srd.old h2 (fun k _ => noOwns k)).rd w hS) B1 d m Q V hm hV ((Srd.old k1 (fun k _ => noOwns k)).rd w hS) B2 d2 m2 D hm2 ((Srd.old k2 (fun k _ => noOwns k)).rd w hS) (fun x hx => (Src.old (hp x hx) (fun k _ => noOwns k)).bs w hS) (fun x hx => (Src.old (hq x hx) (fun k _ => noOwns k)).bs w hS) (by omega) (by omega) (by omega) (by omega) r hr) rfl rfl (fun _ => rfl)) ?_ rfl rfl (by kernel_rfl)
      rintro _ _ ⟨_, rfl, _, rfl⟩
      refine Nx_same sub_st ?_
      (refine D_take 6 rfl (T_bnq (b := r) (c := r) (r := false) rfl rfl rfl rfl (by cases r <;> rfl; done)) ?_ rfl rfl (by kernel_rfl) (by kernel_rfl))
      refine D_take 7 rfl (pev_ok rfl) ?_ rfl rfl (by kernel_rfl) (by kernel_rfl)
      refine D_take 8 rfl (T_loads (ds := ntc A n c A2 n2 c2') rfl rfl rfl rfl rfl) ?_ rfl rfl (by kernel_rfl) (by kernel_rfl)
      refine D_take 9 rfl (T_loads (ds := ntc A n c A2 n2 c2') rfl rfl rfl rfl rfl) ?_ rfl rfl (by kernel_rfl) (by kernel_rfl)
      refine D_one 10 rfl (E_hvG (f := 11) ⟨_, Try.func11, rfl, by kernel_rfl⟩ (fun w hS => copyL_any w A c n P W hk hW ((Srd.old h (fun k _ => noOwns k)).rd w hS) A2 c2' n2 C hk2 ((Srd.old h2 (fun k _ => noOwns k)).rd w hS) (by omega) (by omega) ((SDt.old hd (fun k _ => noOwns k)).rd w hS) hkk) rfl rfl) ?_ rfl rfl (by kernel_rfl)
      rintro _ _ ⟨⟨⟨⟨A6, c6⟩, P6⟩, ⟨B6, d6⟩⟩, rfl, _, rfl⟩; dsimp only [List.cons_append, List.nil_append]
      refine Nx_same sub_st ?_
      refine D_one 11 rfl (E_hv0 (f := 21) ⟨_, Try.func21, rfl, by kernel_rfl⟩ (fun w hS => sameN_k w A c n P W hk hW ((Srd.old h (fun k _ => noOwns k)).rd w hS) A2 c2' n2 C hk2 ((Srd.old h2 (fun k _ => noOwns k)).rd w hS) A6 c6 n P6.1 W ((pk_len P6.2.1).trans hWn) P6.2.1 ((Srd.row (A := A6) (n := n) (c := c6)).rd w hS) B6 d6 n2 C hk2 ((Srd.row (A := B6) (n := n2) (c := d6)).rd w hS) (fun x hx => (Src.old (hp x hx) (fun k _ => noOwns k)).bs w hS) (fun m hm => dtB_bs (e := 5) (D := P6.1.map pkd) hS (by simp) (pkd m) (List.mem_map.2 ⟨m, hm, rfl⟩)) (by omega) (by omega) (by omega) (by omega) true (same_ttN _ _)) rfl rfl (fun _ => rfl)) ?_ rfl rfl (by kernel_rfl)
      rintro _ _ ⟨_, rfl, _, rfl⟩
      refine Nx_same sub_st ?_
      refine D_take 12 rfl (T_not rfl) ?_ rfl rfl (by kernel_rfl) (by kernel_rfl)
      refine D_take 13 rfl (pev_ok rfl) ?_ rfl rfl (by kernel_rfl) (by kernel_rfl)
      refine D_done ?_ (by kernel_rfl)
      skip
      have h18 : 1 ≤ fr ∧ fr ≤ 8 := by unfold nodeB at hfr; rw [Bool.and_eq_true, decide_eq_true_eq, decide_eq_true_eq] at hfr; exact hfr
      focus (refine S_false rfl rfl ?_; refine S_skip rfl ?_; refine S_seq rfl ?_; refine S_seq rfl ?_; refine S_region rfl rfl ?_; refine R_take (T_loads (ds := ntc A n c A2 n2 c2') rfl rfl rfl rfl rfl) ?_ rfl rfl; (refine R_eff (E_hv0 (f := 16) ⟨_, Try.func16, rfl, by kernel_rfl⟩ (fun w hS => rightD_k w A c n P W hk hW ((Srd.old h (fun k _ => noOwns k)).rd w hS) A2 c2' n2 C hk2 ((Srd.old h2 (fun k _ => noOwns k)).rd w hS) (by omega) (by omega) true hch) rfl rfl (fun _ => rfl)) ?_ rfl rfl; rintro _ _ ⟨_, rfl, _, rfl⟩); refine R_take (T_not rfl) ?_ rfl rfl; refine R_nil ?_; refine S_false rfl rfl ?_; refine S_skip rfl ?_; refine S_seq rfl ?_; refine S_seq rfl ?_; refine S_region rfl rfl ?_; refine R_take (T_loads (ds := ntc A n c A2 n2 c2') rfl rfl rfl rfl rfl) ?_ rfl rfl; (refine R_eff (E_hvG (f := 11) ⟨_, Try.func11, rfl, by kernel_rfl⟩ (fun w hS => copyL_any w A c n P W hk hW ((Srd.old h (fun k _ => noOwns k)).rd w hS) A2 c2' n2 C hk2 ((Srd.old h2 (fun k _ => noOwns k)).rd w hS) (by omega) (by omega) ((SDt.old hd (fun k _ => noOwns k)).rd w hS) hkk) rfl rfl) ?_ rfl rfl; rintro _ _ ⟨⟨⟨⟨A9, c9⟩, P9⟩, ⟨B9, d9⟩⟩, rfl, _, rfl⟩; dsimp only [List.cons_append, List.nil_append]); (refine R_eff (E_hv0 (f := 22) ⟨_, Try.func22, rfl, by kernel_rfl⟩ (fun w hS => check_k w A9 c9 n P9.1 W ((pk_len P9.2.1).trans hWn) P9.2.1 ((Srd.row (A := A9) (n := n) (c := c9)).rd w hS) B9 d9 n2 C hk2 ((Srd.row (A := B9) (n := n2) (c := d9)).rd w hS) (by omega) (by omega) 0 (by rw [hch]; rfl)) rfl rfl (fun _ => rfl)) ?_ rfl rfl; rintro _ _ ⟨_, rfl, _, rfl⟩); refine R_take (T_decF rfl (by omega)) ?_ rfl rfl; refine R_nil ?_; refine S_false rfl rfl ?_; refine S_skip rfl ?_; refine S_seq rfl ?_; refine S_seq rfl ?_; refine S_region rfl rfl ?_; refine R_p rfl ?_ rfl rfl; refine R_take (T_load rfl rfl rfl rfl) ?_ rfl rfl; refine R_take (T_decF rfl (by omega)) ?_ rfl rfl; refine R_p rfl ?_ rfl rfl; refine R_p rfl ?_ rfl rfl; refine R_take (T_load rfl rfl rfl rfl) ?_ rfl rfl; refine R_take (T_decF rfl (by omega)) ?_ rfl rfl; refine R_p rfl ?_ rfl rfl; refine R_nil ?_; refine S_false rfl rfl ?_; refine S_skip rfl ?_; refine S_seq rfl ?_)
      refine S_draw ([pt b3 25 (ntc A n c A2 n2 c2'), pt b9 25 (ntc A7 (sendW C fr W (S.map sdv)).length c7 B7 n2 d7), pt b5 44 ([.int .i64 fr, .slice SA k sc])]) sub_st (by kernel_rfl) rfl (by kernel_rfl) (by kernel_rfl : _ = 13) ?_
      refine D_take 0 rfl (pev_ok rfl) ?_ rfl rfl (by kernel_rfl) (by kernel_rfl)
      refine D_take 1 rfl (T_decT rfl (by omega)) ?_ rfl rfl (by kernel_rfl) (by kernel_rfl)
      refine D_take 2 rfl (T_decT rfl (by omega)) ?_ rfl rfl (by kernel_rfl) (by kernel_rfl)
      refine D_take 3 rfl (T_loads (ds := ntc A7 (sendW C fr W (S.map sdv)).length c7 B7 n2 d7) rfl rfl rfl rfl rfl) ?_ rfl rfl (by kernel_rfl) (by kernel_rfl)
      refine D_take 4 rfl (T_loads (ds := ntc A n c A2 n2 c2') rfl rfl rfl rfl rfl) ?_ rfl rfl (by kernel_rfl) (by kernel_rfl)
      refine D_take 5 rfl (pev_ok rfl) ?_ rfl rfl (by kernel_rfl) (by kernel_rfl)
      refine D_take 6 rfl (T_load rfl rfl rfl rfl) ?_ rfl rfl (by kernel_rfl) (by kernel_rfl)
      refine D_take 7 rfl (pev_ok rfl) ?_ rfl rfl (by kernel_rfl) (by kernel_rfl)
      refine D_take 8 rfl (T_load rfl rfl rfl rfl) ?_ rfl rfl (by kernel_rfl) (by kernel_rfl)
      refine D_one 9 rfl (E_hvG (f := 23) ⟨_, Try.func23, rfl, by kernel_rfl⟩ (fun w hS => sendD_any w A c n P W hk hW ((Srd.old h (fun k _ => noOwns k)).rd w hS) A2 c2' n2 C hk2 ((Srd.old h2 (fun k _ => noOwns k)).rd w hS) (by omega) (by omega) hcut fr SA sc k S hSk ((Srd.old hSr (fun k _ => noOwns k)).rd w hS) hk1) rfl rfl) ?_ rfl rfl (by kernel_rfl)
      rintro _ _ ⟨⟨⟨A8, c8⟩, ⟨R, hR, hmm⟩⟩, rfl, _, rfl⟩; dsimp only [List.cons_append, List.nil_append]
      refine Nx_same sub_st ?_
      refine D_one 10 rfl (E_hv0 (f := 19) ⟨_, Try.func19, rfl, by kernel_rfl⟩ (fun w hS => sameD_k w A7 c7 (sendW C fr W (S.map sdv)).length P7.1 (sendW C fr W (S.map sdv)) (pk_len P7.2.1) P7.2.1 ((Srd.row (A := A7) (n := (sendW C fr W (S.map sdv)).length) (c := c7)).rd w hS) B7 d7 n2 C hk2 ((Srd.row (A := B7) (n := n2) (c := d7)).rd w hS) A8 c8 (sendW C fr W (S.map sdv)).length R (sendW C fr W (S.map sdv)) (pk_len hR) hR ((Srd.row (A := A8) (n := (sendW C fr W (S.map sdv)).length) (c := c8)).rd w hS) A2 c2' n2 C hk2 ((Srd.old h2 (fun k _ => noOwns k)).rd w hS) (fun m hm => dtB_bs (e := 5) (D := P7.1.map pkd) hS (by simp) (pkd m) (List.mem_map.2 ⟨m, hm, rfl⟩)) (fun x hx => (Src.old ((bs_R hp hs hmm) x hx) (fun k _ => noOwns k)).bs w hS) (by omega) (by omega) (by omega) (by omega) true (same_ttN _ _)) rfl rfl (fun _ => rfl)) ?_ rfl rfl (by kernel_rfl)
      rintro _ _ ⟨_, rfl, _, rfl⟩
      refine Nx_same sub_st ?_
      refine D_take 11 rfl (T_decT rfl (by omega)) ?_ rfl rfl (by kernel_rfl) (by kernel_rfl)
      refine D_take 12 rfl (T_decT rfl (by omega)) ?_ rfl rfl (by kernel_rfl) (by kernel_rfl)
      refine D_done ?_ (by kernel_rfl)
      skip
      skip
      exact hB _ _ _ _ _ rfl rfl fun w' hS => ⟨(), rfl, trivial, hS.sublist (List.nil_sublist _)⟩
end Go.Proofs.Ytclmaoagdkhboaa
