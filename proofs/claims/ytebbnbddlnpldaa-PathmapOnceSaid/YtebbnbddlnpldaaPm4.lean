/- Which maps and edits may be, by the document. -/
import Derived.Test.YtebbnbddlnpldaaPm3
namespace Go.Proofs.Ytebbnbddlnpldaa
open Go.RowKit
open Asn (pt row rb)
set_option linter.unusedVariables false
set_option linter.unusedSimpArgs false
--@use N

/-- what has been gone through is right so far -/
def goodR (L : List Rw) (j : Nat) : Prop := (L.take j).all (fun x => !badR x) = true ∧ incN (L.map (·.1)) j = true
def goodC (L : List Ch) (j : Nat) : Prop := (L.take j).all (fun x => !badC x) = true ∧ incN (L.map (·.1)) j = true
theorem goodR_end {L : List Rw} (h : goodR L L.length) (hl : L.length ≤ 32) : chkR L = true := by
  rw [chkR, risB, List.length_map, decide_eq_true hl, h.2]
  have := h.1
  rw [List.take_length] at this
  rw [this]
  rfl
theorem goodR_full {L : List Rw} (hl : 32 < L.length) : chkR L = false := by
  rw [chkR, risB, List.length_map, decide_eq_false (by omega), Bool.false_and, Bool.and_false]
theorem goodR_bad {L : List Rw} {x : Rw} (hx : x ∈ L) (h : badR x = true) : chkR L = false := by
  have : L.all (fun x => !badR x) = false := by
    rw [List.all_eq_false]
    exact ⟨x, hx, by simp [h]⟩
  rw [chkR, this, Bool.false_and]
theorem goodR_step {L : List Rw} {j : Nat} (hj : j < L.length) (h : stepB (L.map (·.1)) j = false) : chkR L = false := by
  rw [chkR, risB, inc_bad (by simpa using hj) h, Bool.and_false, Bool.and_false]
theorem goodR_next {L : List Rw} {j : Nat} (hj : j < L.length) (h : goodR L j) (hb : badR (L.getD j default) = false) (hs : stepB (L.map (·.1)) j = true) : goodR L (j + 1) := by
  refine ⟨?_, ?_⟩
  · rw [List.take_succ_eq_append_getElem hj, List.all_append, h.1]
    have : L[j] = L.getD j default := by simp [List.getD, hj]
    rw [this, List.all_cons, List.all_nil, hb]
    rfl
  · rw [inc_next, h.2, hs]
    rfl
theorem goodC_end {L : List Ch} (h : goodC L L.length) (hl : L.length ≤ 32) : chkC L = true := by
  rw [chkC, risB, List.length_map, decide_eq_true hl, h.2]
  have := h.1
  rw [List.take_length] at this
  rw [this]
  rfl
theorem goodC_full {L : List Ch} (hl : 32 < L.length) : chkC L = false := by
  rw [chkC, risB, List.length_map, decide_eq_false (by omega), Bool.false_and, Bool.and_false]
theorem goodC_bad {L : List Ch} {x : Ch} (hx : x ∈ L) (h : badC x = true) : chkC L = false := by
  have : L.all (fun x => !badC x) = false := by
    rw [List.all_eq_false]
    exact ⟨x, hx, by simp [h]⟩
  rw [chkC, this, Bool.false_and]
theorem goodC_step {L : List Ch} {j : Nat} (hj : j < L.length) (h : stepB (L.map (·.1)) j = false) : chkC L = false := by
  rw [chkC, risB, inc_bad (by simpa using hj) h, Bool.and_false, Bool.and_false]
theorem goodC_next {L : List Ch} {j : Nat} (hj : j < L.length) (h : goodC L j) (hb : badC (L.getD j default) = false) (hs : stepB (L.map (·.1)) j = true) : goodC L (j + 1) := by
  refine ⟨?_, ?_⟩
  · rw [List.take_succ_eq_append_getElem hj, List.all_append, h.1]
    have : L[j] = L.getD j default := by simp [List.getD, hj]
    rw [this, List.all_cons, List.all_nil, hb]
    rfl
  · rw [inc_next, h.2, hs]
    rfl
set_option maxRecDepth 100000 in
set_option maxHeartbeats 4000000 in
theorem rightR_any (w : World) (A : Option Addr) (n c : Nat) (L : List Rw) (h : Rd w All 2 A n (cellsL rwc L)) (hn : n ≤ 100000) (hp : ∀ x ∈ L, x.1.length ≤ 100000) :
    Gives Try.prog 14 [.agg #[.slice A n c]] [] w (X := Unit) (fun _ => .bool (chkR L)) (fun _ => True) (fun _ => []) := by
  refine gives_S Try.func14 rfl Try.ntmps14 Try.results14 (by simp) (St.enter w) (fun B hB => ?_)
  have hl : L.length = n := by have := h.1; rw [cellsL_len rwc_len] at this; omega
  have hne : 0 < n → A ≠ none := fun h0 => by obtain ⟨ad, rfl, _⟩ := h.2 (by omega); simp
  subst hl
  focus (refine S_seq rfl ?_; refine S_region rfl rfl ?_; (refine R_eff (E_boxa (cs := [.slice A L.length c]) rfl) ?_ rfl rfl; rintro _ _ ⟨b, rfl, rfl⟩); refine R_p rfl ?_ rfl rfl; refine R_nil ?_; refine S_seq rfl ?_; refine S_seq rfl ?_; refine S_region rfl rfl ?_; refine R_p rfl ?_ rfl rfl; refine R_nil ?_; refine S_block rfl ?_)
  refine S_loop (X := Nat) (fun j => [(1, .pointer (some ⟨b, 0, none⟩)), (3, .int .i64 (j : Int))]) (fun _ => [pt b 24 [.slice A L.length c]]) (fun j => j ≤ L.length ∧ j ≤ 32 ∧ goodR L j) (fun j => L.length - j) rfl 0 ⟨Nat.zero_le _, by omega, rfl, rfl⟩ (Sub.cons rfl (Sub.cons rfl Sub.nil)) sub_st ?_
  rintro j ⟨hj, hj32, hok⟩ J hJ
  rcases Nat.lt_or_ge j L.length with hjl | hjl
  · have hne := hne (by omega)
    have hat := fun e v => cellsL_at (f := rwc) rwc_len L default j hjl e v
    have hmem : L.getD j default ∈ L := by simp [List.getD, hjl]
    have hnx := goodR_next hjl hok
    rw [stepB, map_getD L j hjl] at hnx
    have hbd := goodR_bad hmem
    have hst := goodR_step hjl
    rw [stepB, map_getD L j hjl] at hst
    have hpl := hp _ hmem
    obtain ⟨⟨s, t⟩, hx⟩ : ∃ x, L.getD j default = x := ⟨_, rfl⟩
    rw [hx] at hat hmem hnx hbd hst hpl
    have hat0 : (cellsL rwc L)[j * 2 + 0]? = some (sv s) := hat 0 _ rfl
    have hat1 : (cellsL rwc L)[j * 2 + 1]? = some (sv t) := hat 1 _ rfl
    dsimp only at hnx hst hpl
    focus (refine S_seq rfl ?_; refine S_seq rfl ?_; refine S_region rfl rfl ?_; refine R_p rfl ?_ rfl rfl; refine R_p rfl ?_ rfl rfl; refine R_take (T_load rfl rfl rfl (by first | rfl | assumption)) ?_ rfl rfl; refine R_p rfl ?_ rfl rfl; refine R_take (T_decT rfl (by omega)) ?_ rfl rfl; refine R_nil ?_; refine S_true rfl rfl ?_; refine S_skip rfl ?_; refine S_seq rfl ?_; refine S_block rfl ?_; refine S_seq rfl ?_)
    by_cases h32 : j = 32
    · skip
      refine S_draw ([pt b 24 [.slice A L.length c]]) sub_st (by kernel_rfl) rfl (by kernel_rfl) (by kernel_rfl : _ = 42) ?_
      refine D_take 0 rfl (pev_ok rfl) ?_ rfl rfl (by kernel_rfl) (by kernel_rfl)
      refine D_take 1 rfl (T_decT rfl (by omega)) ?_ rfl rfl (by kernel_rfl) (by kernel_rfl)
      refine D_take 2 rfl (pev_ok rfl) ?_ rfl rfl (by kernel_rfl) (by kernel_rfl)
      refine D_skip 3 rfl ?_ rfl rfl (by kernel_rfl) (by kernel_rfl)
      refine D_skip 4 rfl ?_ rfl rfl (by kernel_rfl) (by kernel_rfl)
      refine D_skip 5 rfl ?_ rfl rfl (by kernel_rfl) (by kernel_rfl)
      refine D_skip 6 rfl ?_ rfl rfl (by kernel_rfl) (by kernel_rfl)
      refine D_skip 7 rfl ?_ rfl rfl (by kernel_rfl) (by kernel_rfl)
      refine D_skip 8 rfl ?_ rfl rfl (by kernel_rfl) (by kernel_rfl)
      refine D_skip 9 rfl ?_ rfl rfl (by kernel_rfl) (by kernel_rfl)
      refine D_skip 10 rfl ?_ rfl rfl (by kernel_rfl) (by kernel_rfl)
      refine D_take 11 rfl (pev_ok rfl) ?_ rfl rfl (by kernel_rfl) (by kernel_rfl)
      refine D_take 12 rfl (pev_ok rfl) ?_ rfl rfl (by kernel_rfl) (by kernel_rfl)
      refine D_skip 13 rfl ?_ rfl rfl (by kernel_rfl) (by kernel_rfl)
      refine D_skip 14 rfl ?_ rfl rfl (by kernel_rfl) (by kernel_rfl)
      refine D_skip 15 rfl ?_ rfl rfl (by kernel_rfl) (by kernel_rfl)
      refine D_skip 16 rfl ?_ rfl rfl (by kernel_rfl) (by kernel_rfl)
      refine D_skip 17 rfl ?_ rfl rfl (by kernel_rfl) (by kernel_rfl)
      refine D_skip 18 rfl ?_ rfl rfl (by kernel_rfl) (by kernel_rfl)
      refine D_skip 19 rfl ?_ rfl rfl (by kernel_rfl) (by kernel_rfl)
      refine D_skip 20 rfl ?_ rfl rfl (by kernel_rfl) (by kernel_rfl)
      refine D_take 21 rfl (pev_ok rfl) ?_ rfl rfl (by kernel_rfl) (by kernel_rfl)
      refine D_take 22 rfl (pev_ok rfl) ?_ rfl rfl (by kernel_rfl) (by kernel_rfl)
      refine D_skip 23 rfl ?_ rfl rfl (by kernel_rfl) (by kernel_rfl)
      refine D_skip 24 rfl ?_ rfl rfl (by kernel_rfl) (by kernel_rfl)
      refine D_skip 25 rfl ?_ rfl rfl (by kernel_rfl) (by kernel_rfl)
      refine D_skip 26 rfl ?_ rfl rfl (by kernel_rfl) (by kernel_rfl)
      refine D_skip 27 rfl ?_ rfl rfl (by kernel_rfl) (by kernel_rfl)
      refine D_skip 28 rfl ?_ rfl rfl (by kernel_rfl) (by kernel_rfl)
      refine D_skip 29 rfl ?_ rfl rfl (by kernel_rfl) (by kernel_rfl)
      refine D_skip 30 rfl ?_ rfl rfl (by kernel_rfl) (by kernel_rfl)
      refine D_skip 31 rfl ?_ rfl rfl (by kernel_rfl) (by kernel_rfl)
      refine D_skip 32 rfl ?_ rfl rfl (by kernel_rfl) (by kernel_rfl)
      refine D_skip 33 rfl ?_ rfl rfl (by kernel_rfl) (by kernel_rfl)
      refine D_skip 34 rfl ?_ rfl rfl (by kernel_rfl) (by kernel_rfl)
      refine D_skip 35 rfl ?_ rfl rfl (by kernel_rfl) (by kernel_rfl)
      refine D_skip 36 rfl ?_ rfl rfl (by kernel_rfl) (by kernel_rfl)
      refine D_skip 37 rfl ?_ rfl rfl (by kernel_rfl) (by kernel_rfl)
      refine D_skip 38 rfl ?_ rfl rfl (by kernel_rfl) (by kernel_rfl)
      refine D_skip 39 rfl ?_ rfl rfl (by kernel_rfl) (by kernel_rfl)
      refine D_skip 40 rfl ?_ rfl rfl (by kernel_rfl) (by kernel_rfl)
      refine D_take 41 rfl (pev_ok rfl) ?_ rfl rfl (by kernel_rfl) (by kernel_rfl)
      refine D_done ?_ (by kernel_rfl)
      skip
      focus (refine S_true rfl rfl ?_; refine S_seq rfl ?_; refine S_region rfl rfl ?_; refine R_p rfl ?_ rfl rfl; refine R_nil ?_)
      refine hB _ _ _ _ _ rfl rfl fun w' hS => ⟨(), ?_, trivial, hS.sublist (List.nil_sublist _)⟩
      rw [goodR_full (by omega)]
      rfl
    obtain ⟨r, hr⟩ : ∃ r, pathB s = r := ⟨_, rfl⟩
    rw [hr] at hnx hst
    cases r
    · skip
      refine S_draw ([pt b 24 [.slice A L.length c]]) sub_st (by kernel_rfl) rfl (by kernel_rfl) (by kernel_rfl : _ = 42) ?_
      refine D_take 0 rfl (pev_ok rfl) ?_ rfl rfl (by kernel_rfl) (by kernel_rfl)
      refine D_take 1 rfl (T_decF rfl (by omega)) ?_ rfl rfl (by kernel_rfl) (by kernel_rfl)
      refine D_take 2 rfl (pev_ok rfl) ?_ rfl rfl (by kernel_rfl) (by kernel_rfl)
      refine D_take 3 rfl (pev_ok rfl) ?_ rfl rfl (by kernel_rfl) (by kernel_rfl)
      refine D_take 4 rfl (T_load rfl rfl rfl (by first | rfl | assumption)) ?_ rfl rfl (by kernel_rfl) (by kernel_rfl)
      refine D_take 5 rfl (pev_ok rfl) ?_ rfl rfl (by kernel_rfl) (by kernel_rfl)
      refine D_take 6 rfl (T_ixM (sz := 2) rfl rfl rfl rfl rfl rfl hne hjl) ?_ rfl rfl (by kernel_rfl) (by kernel_rfl)
      refine D_take 7 rfl (T_fap rfl rfl rfl rfl rfl hne) ?_ rfl rfl (by kernel_rfl) (by kernel_rfl)
      refine D_take 8 rfl (T_ldr rfl rfl rfl (Srd.old h (fun k _ => noOwns k)) (by omega) hat0) ?_ rfl rfl (by kernel_rfl) (by kernel_rfl)
      refine D_one 9 rfl (E_rpathW (a := s) (r := false) rfl hpl hr) ?_ rfl rfl (by kernel_rfl)
      rintro _ _ ⟨rfl, rfl⟩
      refine Nx_same sub_st ?_
      refine D_take 10 rfl (T_not rfl) ?_ rfl rfl (by kernel_rfl) (by kernel_rfl)
      refine D_take 11 rfl (pev_ok rfl) ?_ rfl rfl (by kernel_rfl) (by kernel_rfl)
      refine D_take 12 rfl (pev_ok rfl) ?_ rfl rfl (by kernel_rfl) (by kernel_rfl)
      refine D_skip 13 rfl ?_ rfl rfl (by kernel_rfl) (by kernel_rfl)
      refine D_skip 14 rfl ?_ rfl rfl (by kernel_rfl) (by kernel_rfl)
      refine D_skip 15 rfl ?_ rfl rfl (by kernel_rfl) (by kernel_rfl)
      refine D_skip 16 rfl ?_ rfl rfl (by kernel_rfl) (by kernel_rfl)
      refine D_skip 17 rfl ?_ rfl rfl (by kernel_rfl) (by kernel_rfl)
      refine D_skip 18 rfl ?_ rfl rfl (by kernel_rfl) (by kernel_rfl)
      refine D_skip 19 rfl ?_ rfl rfl (by kernel_rfl) (by kernel_rfl)
      refine D_skip 20 rfl ?_ rfl rfl (by kernel_rfl) (by kernel_rfl)
      refine D_take 21 rfl (pev_ok rfl) ?_ rfl rfl (by kernel_rfl) (by kernel_rfl)
      refine D_take 22 rfl (pev_ok rfl) ?_ rfl rfl (by kernel_rfl) (by kernel_rfl)
      refine D_skip 23 rfl ?_ rfl rfl (by kernel_rfl) (by kernel_rfl)
      refine D_skip 24 rfl ?_ rfl rfl (by kernel_rfl) (by kernel_rfl)
      refine D_skip 25 rfl ?_ rfl rfl (by kernel_rfl) (by kernel_rfl)
      refine D_skip 26 rfl ?_ rfl rfl (by kernel_rfl) (by kernel_rfl)
      refine D_skip 27 rfl ?_ rfl rfl (by kernel_rfl) (by kernel_rfl)
      refine D_skip 28 rfl ?_ rfl rfl (by kernel_rfl) (by kernel_rfl)
      refine D_skip 29 rfl ?_ rfl rfl (by kernel_rfl) (by kernel_rfl)
      refine D_skip 30 rfl ?_ rfl rfl (by kernel_rfl) (by kernel_rfl)
      refine D_skip 31 rfl ?_ rfl rfl (by kernel_rfl) (by kernel_rfl)
      refine D_skip 32 rfl ?_ rfl rfl (by kernel_rfl) (by kernel_rfl)
      refine D_skip 33 rfl ?_ rfl rfl (by kernel_rfl) (by kernel_rfl)
      refine D_skip 34 rfl ?_ rfl rfl (by kernel_rfl) (by kernel_rfl)
      refine D_skip 35 rfl ?_ rfl rfl (by kernel_rfl) (by kernel_rfl)
      refine D_skip 36 rfl ?_ rfl rfl (by kernel_rfl) (by kernel_rfl)
      refine D_skip 37 rfl ?_ rfl rfl (by kernel_rfl) (by kernel_rfl)
      refine D_skip 38 rfl ?_ rfl rfl (by kernel_rfl) (by kernel_rfl)
      refine D_skip 39 rfl ?_ rfl rfl (by kernel_rfl) (by kernel_rfl)
      refine D_skip 40 rfl ?_ rfl rfl (by kernel_rfl) (by kernel_rfl)
      refine D_take 41 rfl (pev_ok rfl) ?_ rfl rfl (by kernel_rfl) (by kernel_rfl)
      refine D_done ?_ (by kernel_rfl)
      skip
      focus (refine S_true rfl rfl ?_; refine S_seq rfl ?_; refine S_region rfl rfl ?_; refine R_p rfl ?_ rfl rfl; refine R_nil ?_)
      refine hB _ _ _ _ _ rfl rfl fun w' hS => ⟨(), ?_, trivial, hS.sublist (List.nil_sublist _)⟩
      rw [hst rfl]
      rfl
    rw [Bool.true_and] at hnx hst
    by_cases ht : 256 < t.length
    · skip
      refine S_draw ([pt b 24 [.slice A L.length c]]) sub_st (by kernel_rfl) rfl (by kernel_rfl) (by kernel_rfl : _ = 42) ?_
      refine D_take 0 rfl (pev_ok rfl) ?_ rfl rfl (by kernel_rfl) (by kernel_rfl)
      refine D_take 1 rfl (T_decF rfl (by omega)) ?_ rfl rfl (by kernel_rfl) (by kernel_rfl)
      refine D_take 2 rfl (pev_ok rfl) ?_ rfl rfl (by kernel_rfl) (by kernel_rfl)
      refine D_take 3 rfl (pev_ok rfl) ?_ rfl rfl (by kernel_rfl) (by kernel_rfl)
      refine D_take 4 rfl (T_load rfl rfl rfl (by first | rfl | assumption)) ?_ rfl rfl (by kernel_rfl) (by kernel_rfl)
      refine D_take 5 rfl (pev_ok rfl) ?_ rfl rfl (by kernel_rfl) (by kernel_rfl)
      refine D_take 6 rfl (T_ixM (sz := 2) rfl rfl rfl rfl rfl rfl hne hjl) ?_ rfl rfl (by kernel_rfl) (by kernel_rfl)
      refine D_take 7 rfl (T_fap rfl rfl rfl rfl rfl hne) ?_ rfl rfl (by kernel_rfl) (by kernel_rfl)
      refine D_take 8 rfl (T_ldr rfl rfl rfl (Srd.old h (fun k _ => noOwns k)) (by omega) hat0) ?_ rfl rfl (by kernel_rfl) (by kernel_rfl)
      refine D_one 9 rfl (E_rpathW (a := s) (r := true) rfl hpl hr) ?_ rfl rfl (by kernel_rfl)
      rintro _ _ ⟨rfl, rfl⟩
      refine Nx_same sub_st ?_
      refine D_take 10 rfl (T_not rfl) ?_ rfl rfl (by kernel_rfl) (by kernel_rfl)
      refine D_take 11 rfl (pev_ok rfl) ?_ rfl rfl (by kernel_rfl) (by kernel_rfl)
      refine D_take 12 rfl (pev_ok rfl) ?_ rfl rfl (by kernel_rfl) (by kernel_rfl)
      refine D_take 13 rfl (pev_ok rfl) ?_ rfl rfl (by kernel_rfl) (by kernel_rfl)
      refine D_take 14 rfl (T_load rfl rfl rfl (by first | rfl | assumption)) ?_ rfl rfl (by kernel_rfl) (by kernel_rfl)
      refine D_take 15 rfl (pev_ok rfl) ?_ rfl rfl (by kernel_rfl) (by kernel_rfl)
      refine D_take 16 rfl (T_ixM (sz := 2) rfl rfl rfl rfl rfl rfl hne hjl) ?_ rfl rfl (by kernel_rfl) (by kernel_rfl)
      refine D_take 17 rfl (T_fap rfl rfl rfl rfl rfl hne) ?_ rfl rfl (by kernel_rfl) (by kernel_rfl)
      refine D_take 18 rfl (T_ldr rfl rfl rfl (Srd.old h (fun k _ => noOwns k)) (by omega) hat1) ?_ rfl rfl (by kernel_rfl) (by kernel_rfl)
      refine D_take 19 rfl (T_lens (a := t) rfl rfl rfl) ?_ rfl rfl (by kernel_rfl) (by kernel_rfl)
      refine D_take 20 rfl (T_decT rfl (by omega)) ?_ rfl rfl (by kernel_rfl) (by kernel_rfl)
      refine D_take 21 rfl (pev_ok rfl) ?_ rfl rfl (by kernel_rfl) (by kernel_rfl)
      refine D_take 22 rfl (pev_ok rfl) ?_ rfl rfl (by kernel_rfl) (by kernel_rfl)
      refine D_skip 23 rfl ?_ rfl rfl (by kernel_rfl) (by kernel_rfl)
      refine D_skip 24 rfl ?_ rfl rfl (by kernel_rfl) (by kernel_rfl)
      refine D_skip 25 rfl ?_ rfl rfl (by kernel_rfl) (by kernel_rfl)
      refine D_skip 26 rfl ?_ rfl rfl (by kernel_rfl) (by kernel_rfl)
      refine D_skip 27 rfl ?_ rfl rfl (by kernel_rfl) (by kernel_rfl)
      refine D_skip 28 rfl ?_ rfl rfl (by kernel_rfl) (by kernel_rfl)
      refine D_skip 29 rfl ?_ rfl rfl (by kernel_rfl) (by kernel_rfl)
      refine D_skip 30 rfl ?_ rfl rfl (by kernel_rfl) (by kernel_rfl)
      refine D_skip 31 rfl ?_ rfl rfl (by kernel_rfl) (by kernel_rfl)
      refine D_skip 32 rfl ?_ rfl rfl (by kernel_rfl) (by kernel_rfl)
      refine D_skip 33 rfl ?_ rfl rfl (by kernel_rfl) (by kernel_rfl)
      refine D_skip 34 rfl ?_ rfl rfl (by kernel_rfl) (by kernel_rfl)
      refine D_skip 35 rfl ?_ rfl rfl (by kernel_rfl) (by kernel_rfl)
      refine D_skip 36 rfl ?_ rfl rfl (by kernel_rfl) (by kernel_rfl)
      refine D_skip 37 rfl ?_ rfl rfl (by kernel_rfl) (by kernel_rfl)
      refine D_skip 38 rfl ?_ rfl rfl (by kernel_rfl) (by kernel_rfl)
      refine D_skip 39 rfl ?_ rfl rfl (by kernel_rfl) (by kernel_rfl)
      refine D_skip 40 rfl ?_ rfl rfl (by kernel_rfl) (by kernel_rfl)
      refine D_take 41 rfl (pev_ok rfl) ?_ rfl rfl (by kernel_rfl) (by kernel_rfl)
      refine D_done ?_ (by kernel_rfl)
      skip
      focus (refine S_true rfl rfl ?_; refine S_seq rfl ?_; refine S_region rfl rfl ?_; refine R_p rfl ?_ rfl rfl; refine R_nil ?_)
      refine hB _ _ _ _ _ rfl rfl fun w' hS => ⟨(), ?_, trivial, hS.sublist (List.nil_sublist _)⟩
      rw [hbd (by simp [badR, ht])]
      rfl
    have hnx := hnx (by simp [badR]; omega)
    rcases Nat.eq_zero_or_pos j with hj0 | hj0
    · subst hj0
      refine S_draw ([pt b 24 [.slice A L.length c]]) sub_st (by kernel_rfl) rfl (by kernel_rfl) (by kernel_rfl : _ = 42) ?_
      refine D_take 0 rfl (pev_ok rfl) ?_ rfl rfl (by kernel_rfl) (by kernel_rfl)
      refine D_take 1 rfl (T_decF rfl (by omega)) ?_ rfl rfl (by kernel_rfl) (by kernel_rfl)
      refine D_take 2 rfl (T_decF rfl (by omega)) ?_ rfl rfl (by kernel_rfl) (by kernel_rfl)
      refine D_take 3 rfl (pev_ok rfl) ?_ rfl rfl (by kernel_rfl) (by kernel_rfl)
      refine D_take 4 rfl (T_load rfl rfl rfl (by first | rfl | assumption)) ?_ rfl rfl (by kernel_rfl) (by kernel_rfl)
      refine D_take 5 rfl (pev_ok rfl) ?_ rfl rfl (by kernel_rfl) (by kernel_rfl)
      refine D_take 6 rfl (T_ixM (sz := 2) rfl rfl rfl rfl rfl rfl hne hjl) ?_ rfl rfl (by kernel_rfl) (by kernel_rfl)
      refine D_take 7 rfl (T_fap rfl rfl rfl rfl rfl hne) ?_ rfl rfl (by kernel_rfl) (by kernel_rfl)
      refine D_take 8 rfl (T_ldr rfl rfl rfl (Srd.old h (fun k _ => noOwns k)) (by omega) hat0) ?_ rfl rfl (by kernel_rfl) (by kernel_rfl)
      refine D_one 9 rfl (E_rpathW (a := s) (r := true) rfl hpl hr) ?_ rfl rfl (by kernel_rfl)
      rintro _ _ ⟨rfl, rfl⟩
      refine Nx_same sub_st ?_
      refine D_take 10 rfl (T_not rfl) ?_ rfl rfl (by kernel_rfl) (by kernel_rfl)
      refine D_take 11 rfl (T_decF rfl (by omega)) ?_ rfl rfl (by kernel_rfl) (by kernel_rfl)
      refine D_take 12 rfl (T_decF rfl (by omega)) ?_ rfl rfl (by kernel_rfl) (by kernel_rfl)
      refine D_take 13 rfl (pev_ok rfl) ?_ rfl rfl (by kernel_rfl) (by kernel_rfl)
      refine D_take 14 rfl (T_load rfl rfl rfl (by first | rfl | assumption)) ?_ rfl rfl (by kernel_rfl) (by kernel_rfl)
      refine D_take 15 rfl (pev_ok rfl) ?_ rfl rfl (by kernel_rfl) (by kernel_rfl)
      refine D_take 16 rfl (T_ixM (sz := 2) rfl rfl rfl rfl rfl rfl hne hjl) ?_ rfl rfl (by kernel_rfl) (by kernel_rfl)
      refine D_take 17 rfl (T_fap rfl rfl rfl rfl rfl hne) ?_ rfl rfl (by kernel_rfl) (by kernel_rfl)
      refine D_take 18 rfl (T_ldr rfl rfl rfl (Srd.old h (fun k _ => noOwns k)) (by omega) hat1) ?_ rfl rfl (by kernel_rfl) (by kernel_rfl)
      refine D_take 19 rfl (T_lens (a := t) rfl rfl rfl) ?_ rfl rfl (by kernel_rfl) (by kernel_rfl)
      refine D_take 20 rfl (T_decF rfl (by omega)) ?_ rfl rfl (by kernel_rfl) (by kernel_rfl)
      refine D_take 21 rfl (T_decF rfl (by omega)) ?_ rfl rfl (by kernel_rfl) (by kernel_rfl)
      refine D_take 22 rfl (T_decF rfl (by omega)) ?_ rfl rfl (by kernel_rfl) (by kernel_rfl)
      refine D_take 23 rfl (pev_ok rfl) ?_ rfl rfl (by kernel_rfl) (by kernel_rfl)
      refine D_take 24 rfl (T_decF rfl (by omega)) ?_ rfl rfl (by kernel_rfl) (by kernel_rfl)
      refine D_take 25 rfl (T_decF rfl (by omega)) ?_ rfl rfl (by kernel_rfl) (by kernel_rfl)
      refine D_skip 26 rfl ?_ rfl rfl (by kernel_rfl) (by kernel_rfl)
      refine D_skip 27 rfl ?_ rfl rfl (by kernel_rfl) (by kernel_rfl)
      refine D_skip 28 rfl ?_ rfl rfl (by kernel_rfl) (by kernel_rfl)
      refine D_skip 29 rfl ?_ rfl rfl (by kernel_rfl) (by kernel_rfl)
      refine D_skip 30 rfl ?_ rfl rfl (by kernel_rfl) (by kernel_rfl)
      refine D_skip 31 rfl ?_ rfl rfl (by kernel_rfl) (by kernel_rfl)
      refine D_skip 32 rfl ?_ rfl rfl (by kernel_rfl) (by kernel_rfl)
      refine D_skip 33 rfl ?_ rfl rfl (by kernel_rfl) (by kernel_rfl)
      refine D_skip 34 rfl ?_ rfl rfl (by kernel_rfl) (by kernel_rfl)
      refine D_skip 35 rfl ?_ rfl rfl (by kernel_rfl) (by kernel_rfl)
      refine D_skip 36 rfl ?_ rfl rfl (by kernel_rfl) (by kernel_rfl)
      refine D_skip 37 rfl ?_ rfl rfl (by kernel_rfl) (by kernel_rfl)
      refine D_skip 38 rfl ?_ rfl rfl (by kernel_rfl) (by kernel_rfl)
      refine D_skip 39 rfl ?_ rfl rfl (by kernel_rfl) (by kernel_rfl)
      refine D_take 40 rfl (T_decF rfl (by omega)) ?_ rfl rfl (by kernel_rfl) (by kernel_rfl)
      refine D_take 41 rfl (T_decF rfl (by omega)) ?_ rfl rfl (by kernel_rfl) (by kernel_rfl)
      refine D_done ?_ (by kernel_rfl)
      skip
      focus (refine S_false rfl rfl ?_; refine S_skip rfl ?_; refine RS_blk ?_; refine S_region rfl rfl ?_; refine R_p rfl ?_ rfl rfl; refine R_take (T_addN rfl rfl (by unfold fits; omega)) ?_ rfl rfl; refine R_p rfl ?_ rfl rfl; refine R_nil ?_)
      exact hJ 1 _ _ ⟨by omega, by omega, hnx rfl⟩ (Sub.cons rfl (Sub.cons rfl Sub.nil)) sub_st (by omega)
    obtain ⟨i, rfl⟩ : ∃ i, j = i + 1 := ⟨j - 1, by omega⟩
    have hat2 := fun e v => cellsL_at (f := rwc) rwc_len L default i (by omega) e v
    rw [Nat.add_sub_cancel, map_getD L i (by omega)] at hnx hst
    obtain ⟨⟨u, u2⟩, hy⟩ : ∃ y, L.getD i default = y := ⟨_, rfl⟩
    rw [hy] at hat2 hnx hst
    have hat2 : (cellsL rwc L)[i * 2 + 0]? = some (sv u) := hat2 0 _ rfl
    dsimp only at hnx hst
    have hcm : scmp .leq s u = some (!Op.bytesLess u s) := congrArg some (less_or s u)
    obtain ⟨q, hq⟩ : ∃ q, Op.bytesLess u s = q := ⟨_, rfl⟩
    rw [hq] at hnx hst hcm
    refine S_draw ([pt b 24 [.slice A L.length c]]) sub_st (by kernel_rfl) rfl (by kernel_rfl) (by kernel_rfl : _ = 42) ?_
    refine D_take 0 rfl (pev_ok rfl) ?_ rfl rfl (by kernel_rfl) (by kernel_rfl)
    refine D_take 1 rfl (T_decF rfl (by omega)) ?_ rfl rfl (by kernel_rfl) (by kernel_rfl)
    refine D_take 2 rfl (pev_ok rfl) ?_ rfl rfl (by kernel_rfl) (by kernel_rfl)
    refine D_take 3 rfl (pev_ok rfl) ?_ rfl rfl (by kernel_rfl) (by kernel_rfl)
    refine D_take 4 rfl (T_load rfl rfl rfl (by first | rfl | assumption)) ?_ rfl rfl (by kernel_rfl) (by kernel_rfl)
    refine D_take 5 rfl (pev_ok rfl) ?_ rfl rfl (by kernel_rfl) (by kernel_rfl)
    refine D_take 6 rfl (T_ixM (sz := 2) rfl rfl rfl rfl rfl rfl hne hjl) ?_ rfl rfl (by kernel_rfl) (by kernel_rfl)
    refine D_take 7 rfl (T_fap rfl rfl rfl rfl rfl hne) ?_ rfl rfl (by kernel_rfl) (by kernel_rfl)
    refine D_take 8 rfl (T_ldr rfl rfl rfl (Srd.old h (fun k _ => noOwns k)) (by omega) hat0) ?_ rfl rfl (by kernel_rfl) (by kernel_rfl)
    refine D_one 9 rfl (E_rpathW (a := s) (r := true) rfl hpl hr) ?_ rfl rfl (by kernel_rfl)
    rintro _ _ ⟨rfl, rfl⟩
    refine Nx_same sub_st ?_
    refine D_take 10 rfl (T_not rfl) ?_ rfl rfl (by kernel_rfl) (by kernel_rfl)
    refine D_take 11 rfl (pev_ok rfl) ?_ rfl rfl (by kernel_rfl) (by kernel_rfl)
    refine D_take 12 rfl (pev_ok rfl) ?_ rfl rfl (by kernel_rfl) (by kernel_rfl)
    refine D_take 13 rfl (pev_ok rfl) ?_ rfl rfl (by kernel_rfl) (by kernel_rfl)
    refine D_take 14 rfl (T_load rfl rfl rfl (by first | rfl | assumption)) ?_ rfl rfl (by kernel_rfl) (by kernel_rfl)
    refine D_take 15 rfl (pev_ok rfl) ?_ rfl rfl (by kernel_rfl) (by kernel_rfl)
    refine D_take 16 rfl (T_ixM (sz := 2) rfl rfl rfl rfl rfl rfl hne hjl) ?_ rfl rfl (by kernel_rfl) (by kernel_rfl)
    refine D_take 17 rfl (T_fap rfl rfl rfl rfl rfl hne) ?_ rfl rfl (by kernel_rfl) (by kernel_rfl)
    refine D_take 18 rfl (T_ldr rfl rfl rfl (Srd.old h (fun k _ => noOwns k)) (by omega) hat1) ?_ rfl rfl (by kernel_rfl) (by kernel_rfl)
    refine D_take 19 rfl (T_lens (a := t) rfl rfl rfl) ?_ rfl rfl (by kernel_rfl) (by kernel_rfl)
    refine D_take 20 rfl (T_decF rfl (by omega)) ?_ rfl rfl (by kernel_rfl) (by kernel_rfl)
    refine D_take 21 rfl (pev_ok rfl) ?_ rfl rfl (by kernel_rfl) (by kernel_rfl)
    refine D_take 22 rfl (pev_ok rfl) ?_ rfl rfl (by kernel_rfl) (by kernel_rfl)
    refine D_take 23 rfl (pev_ok rfl) ?_ rfl rfl (by kernel_rfl) (by kernel_rfl)
    refine D_take 24 rfl (T_decT rfl (by omega)) ?_ rfl rfl (by kernel_rfl) (by kernel_rfl)
    refine D_take 25 rfl (pev_ok rfl) ?_ rfl rfl (by kernel_rfl) (by kernel_rfl)
    refine D_take 26 rfl (pev_ok rfl) ?_ rfl rfl (by kernel_rfl) (by kernel_rfl)
    refine D_take 27 rfl (T_load rfl rfl rfl (by first | rfl | assumption)) ?_ rfl rfl (by kernel_rfl) (by kernel_rfl)
    refine D_take 28 rfl (pev_ok rfl) ?_ rfl rfl (by kernel_rfl) (by kernel_rfl)
    refine D_take 29 rfl (T_ixM (sz := 2) rfl rfl rfl rfl rfl rfl hne hjl) ?_ rfl rfl (by kernel_rfl) (by kernel_rfl)
    refine D_take 30 rfl (T_fap rfl rfl rfl rfl rfl hne) ?_ rfl rfl (by kernel_rfl) (by kernel_rfl)
    refine D_take 31 rfl (T_ldr rfl rfl rfl (Srd.old h (fun k _ => noOwns k)) (by omega) hat0) ?_ rfl rfl (by kernel_rfl) (by kernel_rfl)
    refine D_take 32 rfl (pev_ok rfl) ?_ rfl rfl (by kernel_rfl) (by kernel_rfl)
    refine D_take 33 rfl (T_load rfl rfl rfl (by first | rfl | assumption)) ?_ rfl rfl (by kernel_rfl) (by kernel_rfl)
    refine D_take 34 rfl (pev_ok rfl) ?_ rfl rfl (by kernel_rfl) (by kernel_rfl)
    (refine D_take 35 rfl (T_subN rfl rfl (by omega) (by unfold fits; omega)) ?_ rfl rfl (by kernel_rfl) (by kernel_rfl))
    refine D_take 36 rfl (T_ixM (sz := 2) (q := i) rfl rfl rfl rfl rfl rfl hne (by omega)) ?_ rfl rfl (by kernel_rfl) (by kernel_rfl)
    refine D_take 37 rfl (T_fap rfl rfl rfl rfl rfl hne) ?_ rfl rfl (by kernel_rfl) (by kernel_rfl)
    refine D_take 38 rfl (T_ldr rfl rfl rfl (Srd.old h (fun k _ => noOwns k)) (by omega) hat2) ?_ rfl rfl (by kernel_rfl) (by kernel_rfl)
    refine D_take 39 rfl (T_scm (a := s) (b := u) rfl rfl hcm) ?_ rfl rfl (by kernel_rfl) (by kernel_rfl)
    refine D_take 40 rfl (pev_ok rfl) ?_ rfl rfl (by kernel_rfl) (by kernel_rfl)
    refine D_take 41 rfl (pev_ok rfl) ?_ rfl rfl (by kernel_rfl) (by kernel_rfl)
    refine D_done ?_ (by kernel_rfl)
    skip
    cases q
    · focus (refine S_true rfl rfl ?_; refine S_seq rfl ?_; refine S_region rfl rfl ?_; refine R_p rfl ?_ rfl rfl; refine R_nil ?_)
      refine hB _ _ _ _ _ rfl rfl fun w' hS => ⟨(), ?_, trivial, hS.sublist (List.nil_sublist _)⟩
      rw [hst (by simp)]
      rfl
    · focus (refine S_false rfl rfl ?_; refine S_skip rfl ?_; refine RS_blk ?_; refine S_region rfl rfl ?_; refine R_p rfl ?_ rfl rfl; refine R_take (T_addN rfl rfl (by unfold fits; omega)) ?_ rfl rfl; refine R_p rfl ?_ rfl rfl; refine R_nil ?_)
      exact hJ (i + 2) _ _ ⟨by omega, by omega, hnx (by simp)⟩ (Sub.cons rfl (Sub.cons rfl Sub.nil)) sub_st (by omega)
  have hjn : j = L.length := by omega
  subst hjn
  focus (refine S_seq rfl ?_; refine S_seq rfl ?_; refine S_region rfl rfl ?_; refine R_p rfl ?_ rfl rfl; refine R_p rfl ?_ rfl rfl; refine R_take (T_load rfl rfl rfl (by first | rfl | assumption)) ?_ rfl rfl; refine R_p rfl ?_ rfl rfl; refine R_take (T_decF rfl (by omega)) ?_ rfl rfl; refine R_nil ?_; refine S_false rfl rfl ?_; refine S_exit rfl rfl ?_; refine S_seq rfl ?_; refine S_region rfl rfl ?_; refine R_p rfl ?_ rfl rfl; refine R_nil ?_)
  refine hB _ _ _ _ _ rfl rfl fun w' hS => ⟨(), ?_, trivial, hS.sublist (List.nil_sublist _)⟩
  rw [goodR_end hok hj32]
  rfl
end Go.Proofs.Ytebbnbddlnpldaa
