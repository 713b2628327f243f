/- Nets: Send. -/
import Derived.Test.YtclmaoagdkhboaaNtA
namespace Go.Proofs.Ytclmaoagdkhboaa
open Go.RowKit
open Asn (pt row rb)
set_option linter.unusedVariables false
set_option linter.unusedSimpArgs false
--@use N

/-- what is said: to whom, bytes -/
abbrev Sd := Int × Dt
abbrev Sv := Int × List UInt8
def sdc (m : Sd) : List Value := [.int .i64 m.1, .slice m.2.1 m.2.2.2.length m.2.2.1]
def sdv (m : Sd) : Sv := (m.1, m.2.2.2)
abbrev sdd (m : Sd) : Dt := m.2
theorem sdc_len (m : Sd) : (sdc m).length = 2 := rfl
theorem sdc_one (m : Sd) : ∀ u ∈ sdc m, u.oneCell' = true := by simp [sdc, Value.oneCell']
theorem sd_zero : ti46.zero = .agg (sdc (0, none, 0, [])).toArray := by kernel_rfl
/-- one thing said -/
def sayW (C : List Ct) (fr : Int) (W : List Pn) (s : Sv) : List Pn := if (pkB (fr, s.1, s.2) && !partP C fr s.1 && decide (W.length < 80)) = true then W ++ [(fr, s.1, s.2)] else W
def sendW (C : List Ct) (fr : Int) (W : List Pn) (S : List Sv) : List Pn := S.foldl (sayW C fr) W
theorem sendW_next (C : List Ct) (fr : Int) (W : List Pn) (S : List Sd) (j : Nat) (hj : j < S.length) : sendW C fr W ((S.take (j + 1)).map sdv) = sayW C fr (sendW C fr W ((S.take j).map sdv)) (sdv (S.getD j default)) := by
  unfold sendW
  have e : S.take (j + 1) = S.take j ++ [S.getD j default] := by
    rw [List.take_succ_eq_append_getElem hj]
    simp [List.getD, hj]
  rw [e, List.map_append, List.foldl_append]
  rfl
set_option maxRecDepth 100000 in
set_option maxHeartbeats 4000000 in
theorem send1_any (w : World) (bf : Nat) (fr : Int) (h : Rd w All 1 (some ⟨bf, 0, none⟩) 1 [.int .i64 fr]) (e : Int) (he : (if nodeB fr = true then 0 else 2) = e) :
    Gives Try.prog 42 [.pointer (some ⟨bf, 0, none⟩)] [] w (X := Unit) (fun _ => .int .i64 e) (fun _ => True) (fun _ => []) := by
  refine gives_S Try.func42 rfl Try.ntmps42 Try.results42 (by simp) (St.enter w) (fun B hB => ?_)
  obtain ⟨r, hr⟩ : ∃ r, nodeB fr = r := ⟨_, rfl⟩
  rw [hr] at he
  cases r
  · rw [if_neg Bool.false_ne_true] at he
    subst he
    focus (refine S_seq rfl ?_; refine S_region rfl rfl ?_; refine R_p rfl ?_ rfl rfl; refine R_nil ?_; refine S_seq rfl ?_; refine S_seq rfl ?_; refine S_region rfl rfl ?_; refine R_take (T_loadg rfl rfl rfl h (fun k _ => noOwns k) rfl) ?_ rfl rfl; (refine R_eff (E_hv0 (f := 43) ⟨_, Try.func43, rfl, by kernel_rfl⟩ (fun w hS => node_k w fr _ hr) rfl rfl (fun _ => rfl)) ?_ rfl rfl; rintro _ _ ⟨_, rfl, _, rfl⟩); refine R_take (T_not rfl) ?_ rfl rfl; refine R_nil ?_; refine S_true rfl rfl ?_; refine S_seq rfl ?_; refine S_region rfl rfl ?_; refine R_p rfl ?_ rfl rfl; refine R_nil ?_)
    exact hB _ _ _ _ _ rfl rfl fun w' hS => ⟨(), rfl, trivial, hS.sublist (List.nil_sublist _)⟩
  · rw [if_pos rfl] at he
    subst he
    focus (refine S_seq rfl ?_; refine S_region rfl rfl ?_; refine R_p rfl ?_ rfl rfl; refine R_nil ?_; refine S_seq rfl ?_; refine S_seq rfl ?_; refine S_region rfl rfl ?_; refine R_take (T_loadg rfl rfl rfl h (fun k _ => noOwns k) rfl) ?_ rfl rfl; (refine R_eff (E_hv0 (f := 43) ⟨_, Try.func43, rfl, by kernel_rfl⟩ (fun w hS => node_k w fr _ hr) rfl rfl (fun _ => rfl)) ?_ rfl rfl; rintro _ _ ⟨_, rfl, _, rfl⟩); refine R_take (T_not rfl) ?_ rfl rfl; refine R_nil ?_; refine S_false rfl rfl ?_; refine S_skip rfl ?_; refine S_seq rfl ?_; refine S_region rfl rfl ?_; refine R_p rfl ?_ rfl rfl; refine R_nil ?_)
    exact hB _ _ _ _ _ rfl rfl fun w' hS => ⟨(), rfl, trivial, hS.sublist (List.nil_sublist _)⟩
set_option maxRecDepth 100000 in
set_option maxHeartbeats 4000000 in
theorem send2_any (w : World) (W : List Pn) (b bl bf : Nat) (A5 : Option Addr) (c5 n : Nat) (P5 : ShP W) (A6 : Option Addr) (c6 n2 : Nat) (C : List Ct) (B0 : Asn) (hl : W.length = n) (hn : n ≤ 500) (hC : C.length = n2) (hn2 : n2 ≤ 1000) (fr : Int) (SA : Option Addr) (sc k : Nat) (S : List Sd) (hSk : S.length = k) (hk1 : k ≤ 400) (hkS : ∀ m ∈ S, m.2.2.2.length ≤ 100000) (hbl : Rd w (fun k => ¬ owns [pt b 25 (ntc A5 n c5 A6 n2 c6), row 30 3 A5 n c5 (cellsL pkc P5.1), dtB 5 (P5.1.map pkd), row 73 2 A6 n2 c6 (cellsL ctc C), B0] k) 1 (some ⟨bl, 0, none⟩) 1 [.slice SA k sc]) (hbf : Rd w (fun k => ¬ owns [pt b 25 (ntc A5 n c5 A6 n2 c6), row 30 3 A5 n c5 (cellsL pkc P5.1), dtB 5 (P5.1.map pkd), row 73 2 A6 n2 c6 (cellsL ctc C), B0] k) 1 (some ⟨bf, 0, none⟩) 1 [.int .i64 fr]) (hSr : Rd w (fun k => ¬ owns [pt b 25 (ntc A5 n c5 A6 n2 c6), row 30 3 A5 n c5 (cellsL pkc P5.1), dtB 5 (P5.1.map pkd), row 73 2 A6 n2 c6 (cellsL ctc C), B0] k) 2 SA k (cellsL sdc S)) (hSd : RDt w (fun k => ¬ owns [pt b 25 (ntc A5 n c5 A6 n2 c6), row 30 3 A5 n c5 (cellsL pkc P5.1), dtB 5 (P5.1.map pkd), row 73 2 A6 n2 c6 (cellsL ctc C), B0] k) (S.map sdd)) (hS0 : St w (owns [pt b 25 (ntc A5 n c5 A6 n2 c6), row 30 3 A5 n c5 (cellsL pkc P5.1), dtB 5 (P5.1.map pkd), row 73 2 A6 n2 c6 (cellsL ctc C), B0]) [pt b 25 (ntc A5 n c5 A6 n2 c6), row 30 3 A5 n c5 (cellsL pkc P5.1), dtB 5 (P5.1.map pkd), row 73 2 A6 n2 c6 (cellsL ctc C), B0] w) :
    Gives Try.prog 44 [.pointer (some ⟨b, 0, none⟩), .pointer (some ⟨bl, 0, none⟩), .pointer (some ⟨bf, 0, none⟩)] [pt b 25 (ntc A5 n c5 A6 n2 c6), row 30 3 A5 n c5 (cellsL pkc P5.1), dtB 5 (P5.1.map pkd), row 73 2 A6 n2 c6 (cellsL ctc C), B0] w (X := (Option Addr × Nat) × ShP (sendW C fr W (S.map sdv)) × (Option Addr × Nat)) (fun _ => .tuple #[]) (fun _ => True) (fun y => pt b 25 (ntc y.1.1 (sendW C fr W (S.map sdv)).length y.1.2 y.2.2.1 n2 y.2.2.2) :: [row 30 3 y.1.1 (sendW C fr W (S.map sdv)).length y.1.2 (cellsL pkc y.2.1.1), dtB 5 (y.2.1.1.map pkd), row 73 2 y.2.2.1 n2 y.2.2.2 (cellsL ctc C), B0]) := by
  refine gives_N2 Try.func44 rfl Try.ntmps44 Try.results44 (by simp) hS0 (fun B hB hB2 => ?_)
  have hl5 := (pk_len P5.2.1).trans hl
  have hneS : 0 < k → SA ≠ none := fun h0 => by obtain ⟨ad, rfl, _⟩ := hSr.2 (by omega); simp
  focus (refine S_seq rfl ?_; refine S_region rfl rfl ?_; refine R_take (T_loadg (v := .slice SA k sc) rfl rfl rfl hbl (fun k hk => hk) rfl) ?_ rfl rfl; refine R_p rfl ?_ rfl rfl; refine R_p rfl ?_ rfl rfl; refine R_nil ?_; refine S_block rfl ?_)
  refine S_loop (X := Nat × Nat × (Option Addr × Nat) × List Pk) (fun x => [(0, .pointer (some ⟨b, 0, none⟩)), (2, .pointer (some ⟨bf, 0, none⟩)), (7, .slice SA k sc), (8, .int .i64 (k : Int)), (9, .int .i64 (x.1 : Int))]) (fun x => [pt b 25 (ntc x.2.2.1.1 x.2.1 x.2.2.1.2 A6 n2 c6), row 30 3 x.2.2.1.1 x.2.1 x.2.2.1.2 (cellsL pkc x.2.2.2), dtB 5 (x.2.2.2.map pkd), row 73 2 A6 n2 c6 (cellsL ctc C), B0]) (fun x => x.1 ≤ k ∧ x.2.2.2.length = x.2.1 ∧ x.2.1 ≤ n + x.1 ∧ x.2.2.2.map pkv = sendW C fr W ((S.take x.1).map sdv) ∧ ∀ m ∈ x.2.2.2, m.2.2.2.2.length ≤ m.2.2.2.1) (fun x => k - x.1) rfl (0, n, (A5, c5), P5.1) ⟨Nat.zero_le _, hl5, Nat.le_refl _, P5.2.1, P5.2.2⟩ (Sub.cons rfl (Sub.cons rfl (Sub.cons rfl (Sub.cons rfl (Sub.cons rfl Sub.nil))))) sub_st ?_
  rintro ⟨j, K, ⟨A7, c7⟩, R⟩ ⟨hj, hRK, hKn, hR, hcap⟩ J hJ
  dsimp only at hj hRK hKn hR hcap ⊢
  rcases Nat.lt_or_ge j k with hjl | hjl
  · have hneS := hneS (by omega)
    have hat := cellsL_at (f := sdc) sdc_len S default j (by omega)
    have hnx := sendW_next C fr W S j (by omega)
    have hmem : S.getD j default ∈ S := by simp [List.getD, show j < S.length by omega]
    generalize S.getD j default = s at hat hnx hmem
    have hbk := hkS s hmem
    have hd1 := hSd (sdd s) (List.mem_map.2 ⟨s, hmem, rfl⟩)
    obtain ⟨to, D, cd, bs⟩ := s
    have hbk : bs.length ≤ 100000 := hbk
    have hd1 : Rd w (fun k => ¬ owns [pt b 25 (ntc A5 n c5 A6 n2 c6), row 30 3 A5 n c5 (cellsL pkc P5.1), dtB 5 (P5.1.map pkd), row 73 2 A6 n2 c6 (cellsL ctc C), B0] k) 1 D bs.length (bs.map bv) := hd1
    have hat : ∀ e v, ([.int .i64 to, .slice D bs.length cd] : List Value)[e]? = some v → (cellsL sdc S)[j * 2 + e]? = some v := hat
    have hnx : sendW C fr W ((S.take (j + 1)).map sdv) = sayW C fr (sendW C fr W ((S.take j).map sdv)) (to, bs) := hnx
    obtain ⟨q1, hpk⟩ : ∃ q, pkB (fr, to, bs) = q := ⟨_, rfl⟩
    obtain ⟨q2, hpp⟩ : ∃ q, partP C fr to = q := ⟨_, rfl⟩
    have hWK : (sendW C fr W ((S.take j).map sdv)).length = K := by rw [← hR, List.length_map, hRK]
    have hsay : sayW C fr (sendW C fr W ((S.take j).map sdv)) (to, bs) = if (q1 && !q2 && decide (K < 80)) = true then sendW C fr W ((S.take j).map sdv) ++ [(fr, to, bs)] else sendW C fr W ((S.take j).map sdv) := by
      unfold sayW
      rw [hpk, hpp, hWK]
    focus (refine S_seq rfl ?_; refine S_region rfl rfl ?_; refine R_take (T_decT rfl (by omega)) ?_ rfl rfl; refine R_nil ?_; refine S_seq rfl ?_; refine S_true rfl rfl ?_; refine S_skip rfl ?_; refine S_seq rfl ?_; refine S_block rfl ?_; refine S_seq rfl ?_; refine S_region rfl rfl ?_; refine R_take (T_ixM (sz := 2) (q := j) rfl rfl rfl rfl rfl rfl hneS hjl) ?_ rfl rfl; refine R_take (T_lda (ds := [.int .i64 to, .slice D bs.length cd]) rfl rfl rfl (Srd.old hSr (fun k hk => hk)) rfl (by omega) hat) ?_ rfl rfl; (refine R_eff (E_alloca rfl sd_zero) ?_ rfl rfl; rintro _ _ ⟨b5, rfl, rfl⟩); (refine R_eff0 (E_storew (cs := sdc (0, none, 0, [])) (ds := [.int .i64 to, .slice D bs.length cd]) rfl rfl rfl rfl (by simp [Value.oneCell']) rfl) ?_ rfl; rintro _ _ rfl); refine R_nil ?_; refine S_seq rfl ?_)
    refine S_cut (X := Nat × (Option Addr × Nat)) (fun x => [(6, .pointer (some ⟨x.1, 0, none⟩)), (0, .pointer (some ⟨b, 0, none⟩)), (2, .pointer (some ⟨bf, 0, none⟩)), (7, .slice SA k sc), (8, .int .i64 (k : Int)), (9, .int .i64 (j : Int))]) (fun x => [pt x.1 30 [.int .i64 fr, .int .i64 to, .slice x.2.1 bs.length x.2.2], row 5 1 x.2.1 bs.length x.2.2 (bs.map bv), pt b 25 (ntc A7 K c7 A6 n2 c6), row 30 3 A7 K c7 (cellsL pkc R), dtB 5 (R.map pkd), row 73 2 A6 n2 c6 (cellsL ctc C), B0]) (fun _ => True) (fun J2 hJ2 => ?_) (fun x _ => ?_)
    · skip
      refine S_draw ([pt b5 46 [.int .i64 to, .slice D bs.length cd]]) sub_st (by kernel_rfl) rfl (by kernel_rfl) (by kernel_rfl : _ = 9) ?_
      refine D_take 0 rfl (T_loadg (v := .int .i64 fr) rfl rfl rfl hbf (fun k hk => hk) rfl) ?_ rfl rfl (by kernel_rfl) (by kernel_rfl)
      refine D_take 1 rfl (pev_ok rfl) ?_ rfl rfl (by kernel_rfl) (by kernel_rfl)
      refine D_take 2 rfl (T_load rfl rfl rfl rfl) ?_ rfl rfl (by kernel_rfl) (by kernel_rfl)
      refine D_take 3 rfl (pev_ok rfl) ?_ rfl rfl (by kernel_rfl) (by kernel_rfl)
      refine D_take 4 rfl (T_load rfl rfl rfl rfl) ?_ rfl rfl (by kernel_rfl) (by kernel_rfl)
      refine D_two 5 7 (by decide) rfl rfl (E_hvG (f := 38) ⟨_, Try.func38, rfl, by kernel_rfl⟩ (fun w hS => bclone_any w D bs.length cd (bs.map bv) ((Srd.old hd1 (fun k hk => hk)).rd w hS) (bv_ones _) hbk) rfl rfl) (E_alloca rfl pk_zero) ?_ ?_ rfl rfl rfl rfl (by kernel_rfl)
      · rintro _ _ ⟨⟨A', c'⟩, rfl, _, rfl⟩; dsimp only [List.cons_append, List.nil_append]
        refine Nx_same sub_st ?_
        refine D_take 6 rfl (T_build3 rfl rfl rfl (pk_built3 _ _ _ _ _)) ?_ rfl rfl (by kernel_rfl) (by kernel_rfl)
        refine D_one 7 rfl (E_alloca rfl pk_zero) ?_ rfl rfl (by kernel_rfl)
        rintro _ _ ⟨b6, rfl, rfl⟩
        refine Nx_same sub_st ?_
        refine D_one 8 rfl (E_storew (cs := pkc (0, 0, none, 0, [])) (ds := [.int .i64 fr, .int .i64 to, .slice A' bs.length c']) rfl rfl rfl rfl (by simp [Value.oneCell']) rfl) ?_ rfl rfl (by kernel_rfl)
        rintro _ _ rfl
        refine Nx_same sub_st ?_
        refine D_done ?_ (by kernel_rfl)
        (skip; exact hJ2 (b6, (A', c')) _ _ trivial (Sub.cons rfl (Sub.cons rfl (Sub.cons rfl (Sub.cons rfl (Sub.cons rfl (Sub.cons rfl Sub.nil)))))) sub_st)
      · rintro _ _ ⟨b6, rfl, rfl⟩
        refine Nx_same sub_st ?_
        refine D_one 5 rfl (E_hvG (f := 38) ⟨_, Try.func38, rfl, by kernel_rfl⟩ (fun w hS => bclone_any w D bs.length cd (bs.map bv) ((Srd.old hd1 (fun k hk => hk)).rd w hS) (bv_ones _) hbk) rfl rfl) ?_ rfl rfl (by kernel_rfl)
        rintro _ _ ⟨⟨A', c'⟩, rfl, _, rfl⟩; dsimp only [List.cons_append, List.nil_append]
        refine Nx_same sub_st ?_
        refine D_take 6 rfl (T_build3 rfl rfl rfl (pk_built3 _ _ _ _ _)) ?_ rfl rfl (by kernel_rfl) (by kernel_rfl)
        refine D_one 8 rfl (E_storew (cs := pkc (0, 0, none, 0, [])) (ds := [.int .i64 fr, .int .i64 to, .slice A' bs.length c']) rfl rfl rfl rfl (by simp [Value.oneCell']) rfl) ?_ rfl rfl (by kernel_rfl)
        rintro _ _ rfl
        refine Nx_same sub_st ?_
        refine D_done ?_ (by kernel_rfl)
        (skip; exact hJ2 (b6, (A', c')) _ _ trivial (Sub.cons rfl (Sub.cons rfl (Sub.cons rfl (Sub.cons rfl (Sub.cons rfl (Sub.cons rfl Sub.nil)))))) sub_st)
    obtain ⟨b6, A', c'⟩ := x
    dsimp only
    focus (refine S_seq rfl ?_)
    cases q1
    · skip
      refine S_draw ([pt b6 30 ([.int .i64 fr, .int .i64 to, .slice A' bs.length c']), pt b 25 (ntc A7 K c7 A6 n2 c6)]) sub_st (by kernel_rfl) rfl (by kernel_rfl) (by kernel_rfl : _ = 18) ?_
      refine D_take 0 rfl (T_loads (ds := [.int .i64 fr, .int .i64 to, .slice A' bs.length c']) rfl rfl rfl rfl rfl) ?_ rfl rfl (by kernel_rfl) (by kernel_rfl)
      refine D_one 1 rfl (E_hv0 (f := 45) ⟨_, Try.func45, rfl, by kernel_rfl⟩ (fun w hS => packet_k w (fr, to, A', c', bs) _ hpk) rfl rfl (fun _ => rfl)) ?_ rfl rfl (by kernel_rfl)
      rintro _ _ ⟨_, rfl, _, rfl⟩
      refine Nx_same sub_st ?_
      refine D_take 2 rfl (pev_ok rfl) ?_ rfl rfl (by kernel_rfl) (by kernel_rfl)
      refine D_skip 3 rfl ?_ rfl rfl (by kernel_rfl) (by kernel_rfl)
      refine D_skip 4 rfl ?_ rfl rfl (by kernel_rfl) (by kernel_rfl)
      refine D_skip 5 rfl ?_ rfl rfl (by kernel_rfl) (by kernel_rfl)
      refine D_skip 6 rfl ?_ rfl rfl (by kernel_rfl) (by kernel_rfl)
      refine D_skip 7 rfl ?_ rfl rfl (by kernel_rfl) (by kernel_rfl)
      refine D_skip 8 rfl ?_ rfl rfl (by kernel_rfl) (by kernel_rfl)
      refine D_take 9 rfl (pev_ok rfl) ?_ rfl rfl (by kernel_rfl) (by kernel_rfl)
      refine D_take 10 rfl (pev_ok rfl) ?_ rfl rfl (by kernel_rfl) (by kernel_rfl)
      refine D_skip 11 rfl ?_ rfl rfl (by kernel_rfl) (by kernel_rfl)
      refine D_skip 12 rfl ?_ rfl rfl (by kernel_rfl) (by kernel_rfl)
      refine D_skip 13 rfl ?_ rfl rfl (by kernel_rfl) (by kernel_rfl)
      refine D_skip 14 rfl ?_ rfl rfl (by kernel_rfl) (by kernel_rfl)
      refine D_skip 15 rfl ?_ rfl rfl (by kernel_rfl) (by kernel_rfl)
      refine D_skip 16 rfl ?_ rfl rfl (by kernel_rfl) (by kernel_rfl)
      refine D_take 17 rfl (pev_ok rfl) ?_ rfl rfl (by kernel_rfl) (by kernel_rfl)
      refine D_done ?_ (by kernel_rfl)
      skip
      focus (refine S_false rfl rfl ?_; refine S_skip rfl ?_; refine RS_blk ?_; refine S_region rfl rfl ?_; refine R_take (T_addN rfl rfl (by unfold fits; omega)) ?_ rfl rfl; refine R_p rfl ?_ rfl rfl; refine R_nil ?_)
      exact hJ (j + 1, K, (A7, c7), R) _ _ ⟨by show j + 1 ≤ _; omega, hRK, by show K ≤ n + (j + 1); omega, by dsimp only; rw [hnx, hsay, if_neg (by simp)]; exact hR, hcap⟩ (Sub.cons rfl (Sub.cons rfl (Sub.cons rfl (Sub.cons rfl (Sub.cons rfl Sub.nil))))) sub_st (by show k - (j + 1) < _; omega)
    cases q2
    · by_cases h80 : K < 80
      · skip
        refine S_draw ([pt b6 30 ([.int .i64 fr, .int .i64 to, .slice A' bs.length c']), pt b 25 (ntc A7 K c7 A6 n2 c6)]) sub_st (by kernel_rfl) rfl (by kernel_rfl) (by kernel_rfl : _ = 18) ?_
        refine D_take 0 rfl (T_loads (ds := [.int .i64 fr, .int .i64 to, .slice A' bs.length c']) rfl rfl rfl rfl rfl) ?_ rfl rfl (by kernel_rfl) (by kernel_rfl)
        refine D_one 1 rfl (E_hv0 (f := 45) ⟨_, Try.func45, rfl, by kernel_rfl⟩ (fun w hS => packet_k w (fr, to, A', c', bs) _ hpk) rfl rfl (fun _ => rfl)) ?_ rfl rfl (by kernel_rfl)
        rintro _ _ ⟨_, rfl, _, rfl⟩
        refine Nx_same sub_st ?_
        refine D_take 2 rfl (T_decT rfl (by omega)) ?_ rfl rfl (by kernel_rfl) (by kernel_rfl)
        refine D_take 3 rfl (pev_ok rfl) ?_ rfl rfl (by kernel_rfl) (by kernel_rfl)
        refine D_take 4 rfl (T_nilCheck rfl) ?_ rfl rfl (by kernel_rfl) (by kernel_rfl)
        refine D_take 5 rfl (T_loads (ds := ntc A7 K c7 A6 n2 c6) rfl rfl rfl rfl rfl) ?_ rfl rfl (by kernel_rfl) (by kernel_rfl)
        refine D_take 6 rfl (T_loads (ds := [.int .i64 fr, .int .i64 to, .slice A' bs.length c']) rfl rfl rfl rfl rfl) ?_ rfl rfl (by kernel_rfl) (by kernel_rfl)
        refine D_one 7 rfl (E_hv0 (f := 31) ⟨_, Try.func31, rfl, by kernel_rfl⟩ (fun w hS => parted_k w A7 c7 K R (sendW C fr W ((S.take j).map sdv)) hRK hR ((Srd.row (A := A7) (n := K) (c := c7)).rd w hS) A6 c6 n2 C hC ((Srd.row (A := A6) (n := n2) (c := c6)).rd w hS) (by omega) hn2 (fr, to, A', c', bs) _ hpp) rfl rfl (fun _ => rfl)) ?_ rfl rfl (by kernel_rfl)
        rintro _ _ ⟨_, rfl, _, rfl⟩
        refine Nx_same sub_st ?_
        refine D_take 8 rfl (T_not rfl) ?_ rfl rfl (by kernel_rfl) (by kernel_rfl)
        refine D_take 9 rfl (T_decT rfl (by omega)) ?_ rfl rfl (by kernel_rfl) (by kernel_rfl)
        refine D_take 10 rfl (T_decT rfl (by omega)) ?_ rfl rfl (by kernel_rfl) (by kernel_rfl)
        refine D_take 11 rfl (pev_ok rfl) ?_ rfl rfl (by kernel_rfl) (by kernel_rfl)
        refine D_take 12 rfl (T_nilCheck rfl) ?_ rfl rfl (by kernel_rfl) (by kernel_rfl)
        refine D_take 13 rfl (pev_ok rfl) ?_ rfl rfl (by kernel_rfl) (by kernel_rfl)
        refine D_take 14 rfl (T_load rfl rfl rfl rfl) ?_ rfl rfl (by kernel_rfl) (by kernel_rfl)
        refine D_take 15 rfl (pev_ok rfl) ?_ rfl rfl (by kernel_rfl) (by kernel_rfl)
        refine D_take 16 rfl (T_decT rfl (by omega)) ?_ rfl rfl (by kernel_rfl) (by kernel_rfl)
        refine D_take 17 rfl (T_decT rfl (by omega)) ?_ rfl rfl (by kernel_rfl) (by kernel_rfl)
        refine D_done ?_ (by kernel_rfl)
        skip
        focus (refine S_true rfl rfl ?_)
        refine S_draw ([pt b6 30 ([.int .i64 fr, .int .i64 to, .slice A' bs.length c']), pt b 25 (ntc A7 K c7 A6 n2 c6)]) sub_st (by kernel_rfl) rfl (by kernel_rfl) (by kernel_rfl : _ = 11) ?_
        refine D_take 0 rfl (pev_ok rfl) ?_ rfl rfl (by kernel_rfl) (by kernel_rfl)
        refine D_take 1 rfl (pev_ok rfl) ?_ rfl rfl (by kernel_rfl) (by kernel_rfl)
        refine D_take 2 rfl (T_nilCheck rfl) ?_ rfl rfl (by kernel_rfl) (by kernel_rfl)
        refine D_take 3 rfl (pev_ok rfl) ?_ rfl rfl (by kernel_rfl) (by kernel_rfl)
        refine D_take 4 rfl (T_load rfl rfl rfl rfl) ?_ rfl rfl (by kernel_rfl) (by kernel_rfl)
        refine D_take 5 rfl (T_loads (ds := [.int .i64 fr, .int .i64 to, .slice A' bs.length c']) rfl rfl rfl rfl rfl) ?_ rfl rfl (by kernel_rfl) (by kernel_rfl)
        refine D_one 6 rfl (E_litS (vs := [.agg ([.int .i64 fr, .int .i64 to, .slice A' bs.length c']).toArray]) (size := 3) (ds := [.int .i64 fr, .int .i64 to, .slice A' bs.length c']) rfl rfl rfl rfl rfl rfl (by simp [vcells]) rfl (by omega)) ?_ rfl rfl (by kernel_rfl)
        rintro _ _ ⟨vb, rfl, rfl⟩
        refine Nx_same sub_st ?_
        refine D_one 7 rfl (E_appS (sz := 3) (m := K) (c := c7) (A := A7) rfl rfl rfl rfl rfl rfl rfl (by decide) (Srd.pt (n := 1) (g := vb) (ds := [.int .i64 fr, .int .i64 to, .slice A' bs.length c']) rfl (fun j u hj => by rw [Nat.zero_add]; exact hj)) (by simp [Value.oneCell']) (by show (K + 1) * 40 ≤ _; omega) (by unfold maxLen; omega)) ?_ rfl rfl (by kernel_rfl)
        rintro _ _ ⟨A8, c8, rfl, rfl⟩
        refine Nx_same sub_st ?_
        refine D_take 8 rfl (T_nilCheck rfl) ?_ rfl rfl (by kernel_rfl) (by kernel_rfl)
        refine D_take 9 rfl (pev_ok rfl) ?_ rfl rfl (by kernel_rfl) (by kernel_rfl)
        refine D_one 10 rfl (E_store1 rfl rfl rfl rfl rfl rfl (by show _ < 2; omega)) ?_ rfl rfl (by kernel_rfl)
        rintro _ _ rfl
        refine Nx_pivot (by kernel_rfl) ?_
        refine D_done ?_ (by kernel_rfl)
        skip
        focus (refine RS_blk ?_; refine S_region rfl rfl ?_; refine R_take (T_addN rfl rfl (by unfold fits; omega)) ?_ rfl rfl; refine R_p rfl ?_ rfl rfl; refine R_nil ?_)
        refine RS_row A' bs.length c' fun hbc _ _ _ => ?_
        refine hJ (j + 1, K + 1, (A8, c8), R ++ [(fr, to, A', c', bs)]) _ _ ⟨by show j + 1 ≤ _; omega, by dsimp only; rw [List.length_append, hRK]; rfl, by show K + 1 ≤ n + (j + 1); omega, by dsimp only; rw [hnx, hsay, if_pos (by rw [decide_eq_true h80]; rfl), List.map_append, hR]; rfl, fun m hm => ?_⟩ (Sub.cons rfl (Sub.cons rfl (Sub.cons rfl (Sub.cons rfl (Sub.cons rfl Sub.nil))))) (fun w' hS => ?_) (by show k - (j + 1) < _; omega)
        · rcases List.mem_append.1 hm with h | h
          · exact hcap m h
          · rw [List.mem_singleton.1 h]
            exact hbc
        dsimp only
        have h1 := sub_st (H' := [row 5 1 A' bs.length c' (bs.map bv), dtB 5 (R.map pkd), pt b 25 ((ntc A7 K c7 A6 n2 c6).set (0 + 0) (.slice A8 (K + 1) c8)), row 30 3 A8 (K + 1) c8 (cellsL pkc R ++ [.int .i64 fr, .int .i64 to, .slice A' bs.length c']), row 73 2 A6 n2 c6 (cellsL ctc C), B0]) w' hS
        have h2 : St w (owns [pt b 25 (ntc A5 n c5 A6 n2 c6), row 30 3 A5 n c5 (cellsL pkc P5.1), dtB 5 (P5.1.map pkd), row 73 2 A6 n2 c6 (cellsL ctc C), B0]) [dtA 5 (A', c', bs), dtB 5 (R.map pkd), pt b 25 (ntc A8 (K + 1) c8 A6 n2 c6), row 30 3 A8 (K + 1) c8 (cellsL pkc R ++ [.int .i64 fr, .int .i64 to, .slice A' bs.length c']), row 73 2 A6 n2 c6 (cellsL ctc C), B0] w' := h1
        have h3 := dtB_put h2
        have e1 : pkc (fr, to, A', c', bs) = [.int .i64 fr, .int .i64 to, .slice A' bs.length c'] := rfl
        rw [cellsL_app, cellsL_one, e1, List.map_append]
        exact sub_st (H' := [pt b 25 (ntc A8 (K + 1) c8 A6 n2 c6), row 30 3 A8 (K + 1) c8 (cellsL pkc R ++ [.int .i64 fr, .int .i64 to, .slice A' bs.length c']), dtB 5 (R.map pkd ++ [(A', c', bs)]), row 73 2 A6 n2 c6 (cellsL ctc C), B0]) w' h3
      · skip
        refine S_draw ([pt b6 30 ([.int .i64 fr, .int .i64 to, .slice A' bs.length c']), pt b 25 (ntc A7 K c7 A6 n2 c6)]) sub_st (by kernel_rfl) rfl (by kernel_rfl) (by kernel_rfl : _ = 18) ?_
        refine D_take 0 rfl (T_loads (ds := [.int .i64 fr, .int .i64 to, .slice A' bs.length c']) rfl rfl rfl rfl rfl) ?_ rfl rfl (by kernel_rfl) (by kernel_rfl)
        refine D_one 1 rfl (E_hv0 (f := 45) ⟨_, Try.func45, rfl, by kernel_rfl⟩ (fun w hS => packet_k w (fr, to, A', c', bs) _ hpk) rfl rfl (fun _ => rfl)) ?_ rfl rfl (by kernel_rfl)
        rintro _ _ ⟨_, rfl, _, rfl⟩
        refine Nx_same sub_st ?_
        refine D_take 2 rfl (T_decT rfl (by omega)) ?_ rfl rfl (by kernel_rfl) (by kernel_rfl)
        refine D_take 3 rfl (pev_ok rfl) ?_ rfl rfl (by kernel_rfl) (by kernel_rfl)
        refine D_take 4 rfl (T_nilCheck rfl) ?_ rfl rfl (by kernel_rfl) (by kernel_rfl)
        refine D_take 5 rfl (T_loads (ds := ntc A7 K c7 A6 n2 c6) rfl rfl rfl rfl rfl) ?_ rfl rfl (by kernel_rfl) (by kernel_rfl)
        refine D_take 6 rfl (T_loads (ds := [.int .i64 fr, .int .i64 to, .slice A' bs.length c']) rfl rfl rfl rfl rfl) ?_ rfl rfl (by kernel_rfl) (by kernel_rfl)
        refine D_one 7 rfl (E_hv0 (f := 31) ⟨_, Try.func31, rfl, by kernel_rfl⟩ (fun w hS => parted_k w A7 c7 K R (sendW C fr W ((S.take j).map sdv)) hRK hR ((Srd.row (A := A7) (n := K) (c := c7)).rd w hS) A6 c6 n2 C hC ((Srd.row (A := A6) (n := n2) (c := c6)).rd w hS) (by omega) hn2 (fr, to, A', c', bs) _ hpp) rfl rfl (fun _ => rfl)) ?_ rfl rfl (by kernel_rfl)
        rintro _ _ ⟨_, rfl, _, rfl⟩
        refine Nx_same sub_st ?_
        refine D_take 8 rfl (T_not rfl) ?_ rfl rfl (by kernel_rfl) (by kernel_rfl)
        refine D_take 9 rfl (T_decT rfl (by omega)) ?_ rfl rfl (by kernel_rfl) (by kernel_rfl)
        refine D_take 10 rfl (T_decT rfl (by omega)) ?_ rfl rfl (by kernel_rfl) (by kernel_rfl)
        refine D_take 11 rfl (pev_ok rfl) ?_ rfl rfl (by kernel_rfl) (by kernel_rfl)
        refine D_take 12 rfl (T_nilCheck rfl) ?_ rfl rfl (by kernel_rfl) (by kernel_rfl)
        refine D_take 13 rfl (pev_ok rfl) ?_ rfl rfl (by kernel_rfl) (by kernel_rfl)
        refine D_take 14 rfl (T_load rfl rfl rfl rfl) ?_ rfl rfl (by kernel_rfl) (by kernel_rfl)
        refine D_take 15 rfl (pev_ok rfl) ?_ rfl rfl (by kernel_rfl) (by kernel_rfl)
        refine D_take 16 rfl (T_decF rfl (by omega)) ?_ rfl rfl (by kernel_rfl) (by kernel_rfl)
        refine D_take 17 rfl (pev_ok rfl) ?_ rfl rfl (by kernel_rfl) (by kernel_rfl)
        refine D_done ?_ (by kernel_rfl)
        skip
        focus (refine S_false rfl rfl ?_; refine S_skip rfl ?_; refine RS_blk ?_; refine S_region rfl rfl ?_; refine R_take (T_addN rfl rfl (by unfold fits; omega)) ?_ rfl rfl; refine R_p rfl ?_ rfl rfl; refine R_nil ?_)
        exact hJ (j + 1, K, (A7, c7), R) _ _ ⟨by show j + 1 ≤ _; omega, hRK, by show K ≤ n + (j + 1); omega, by dsimp only; rw [hnx, hsay, if_neg (by rw [decide_eq_false h80]; simp)]; exact hR, hcap⟩ (Sub.cons rfl (Sub.cons rfl (Sub.cons rfl (Sub.cons rfl (Sub.cons rfl Sub.nil))))) sub_st (by show k - (j + 1) < _; omega)
    · skip
      refine S_draw ([pt b6 30 ([.int .i64 fr, .int .i64 to, .slice A' bs.length c']), pt b 25 (ntc A7 K c7 A6 n2 c6)]) sub_st (by kernel_rfl) rfl (by kernel_rfl) (by kernel_rfl : _ = 18) ?_
      refine D_take 0 rfl (T_loads (ds := [.int .i64 fr, .int .i64 to, .slice A' bs.length c']) rfl rfl rfl rfl rfl) ?_ rfl rfl (by kernel_rfl) (by kernel_rfl)
      refine D_one 1 rfl (E_hv0 (f := 45) ⟨_, Try.func45, rfl, by kernel_rfl⟩ (fun w hS => packet_k w (fr, to, A', c', bs) _ hpk) rfl rfl (fun _ => rfl)) ?_ rfl rfl (by kernel_rfl)
      rintro _ _ ⟨_, rfl, _, rfl⟩
      refine Nx_same sub_st ?_
      refine D_take 2 rfl (T_decT rfl (by omega)) ?_ rfl rfl (by kernel_rfl) (by kernel_rfl)
      refine D_take 3 rfl (pev_ok rfl) ?_ rfl rfl (by kernel_rfl) (by kernel_rfl)
      refine D_take 4 rfl (T_nilCheck rfl) ?_ rfl rfl (by kernel_rfl) (by kernel_rfl)
      refine D_take 5 rfl (T_loads (ds := ntc A7 K c7 A6 n2 c6) rfl rfl rfl rfl rfl) ?_ rfl rfl (by kernel_rfl) (by kernel_rfl)
      refine D_take 6 rfl (T_loads (ds := [.int .i64 fr, .int .i64 to, .slice A' bs.length c']) rfl rfl rfl rfl rfl) ?_ rfl rfl (by kernel_rfl) (by kernel_rfl)
      refine D_one 7 rfl (E_hv0 (f := 31) ⟨_, Try.func31, rfl, by kernel_rfl⟩ (fun w hS => parted_k w A7 c7 K R (sendW C fr W ((S.take j).map sdv)) hRK hR ((Srd.row (A := A7) (n := K) (c := c7)).rd w hS) A6 c6 n2 C hC ((Srd.row (A := A6) (n := n2) (c := c6)).rd w hS) (by omega) hn2 (fr, to, A', c', bs) _ hpp) rfl rfl (fun _ => rfl)) ?_ rfl rfl (by kernel_rfl)
      rintro _ _ ⟨_, rfl, _, rfl⟩
      refine Nx_same sub_st ?_
      refine D_take 8 rfl (T_not rfl) ?_ rfl rfl (by kernel_rfl) (by kernel_rfl)
      refine D_take 9 rfl (pev_ok rfl) ?_ rfl rfl (by kernel_rfl) (by kernel_rfl)
      refine D_take 10 rfl (pev_ok rfl) ?_ rfl rfl (by kernel_rfl) (by kernel_rfl)
      refine D_skip 11 rfl ?_ rfl rfl (by kernel_rfl) (by kernel_rfl)
      refine D_skip 12 rfl ?_ rfl rfl (by kernel_rfl) (by kernel_rfl)
      refine D_skip 13 rfl ?_ rfl rfl (by kernel_rfl) (by kernel_rfl)
      refine D_skip 14 rfl ?_ rfl rfl (by kernel_rfl) (by kernel_rfl)
      refine D_skip 15 rfl ?_ rfl rfl (by kernel_rfl) (by kernel_rfl)
      refine D_skip 16 rfl ?_ rfl rfl (by kernel_rfl) (by kernel_rfl)
      refine D_take 17 rfl (pev_ok rfl) ?_ rfl rfl (by kernel_rfl) (by kernel_rfl)
      refine D_done ?_ (by kernel_rfl)
      skip
      focus (refine S_false rfl rfl ?_; refine S_skip rfl ?_; refine RS_blk ?_; refine S_region rfl rfl ?_; refine R_take (T_addN rfl rfl (by unfold fits; omega)) ?_ rfl rfl; refine R_p rfl ?_ rfl rfl; refine R_nil ?_)
      exact hJ (j + 1, K, (A7, c7), R) _ _ ⟨by show j + 1 ≤ _; omega, hRK, by show K ≤ n + (j + 1); omega, by dsimp only; rw [hnx, hsay, if_neg (by simp)]; exact hR, hcap⟩ (Sub.cons rfl (Sub.cons rfl (Sub.cons rfl (Sub.cons rfl (Sub.cons rfl Sub.nil))))) sub_st (by show k - (j + 1) < _; omega)
  have hjk : k = j := by omega
  subst hjk
  rw [← hSk, List.take_length] at hR
  have hK : (sendW C fr W (S.map sdv)).length = K := by rw [← hR, List.length_map, hRK]
  subst hK
  focus (refine S_seq rfl ?_; refine S_region rfl rfl ?_; refine R_take (T_decF rfl (by omega)) ?_ rfl rfl; refine R_nil ?_; refine S_seq rfl ?_; refine S_false rfl rfl ?_; refine S_exit rfl rfl ?_)
  first
    | exact hB _ _ fun w' hS => ⟨((A7, c7), ⟨R, hR, hcap⟩, (A6, c6)), trivial, sub_st w' hS⟩
    | exact hB2 _ _ fun w' hS => ⟨((A7, c7), ⟨R, hR, hcap⟩, (A6, c6)), trivial, sub_st w' hS⟩
end Go.Proofs.Ytclmaoagdkhboaa
