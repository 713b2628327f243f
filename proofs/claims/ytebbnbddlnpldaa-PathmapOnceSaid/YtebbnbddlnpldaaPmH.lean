/- The document: Same; what Apply makes is the document's. -/
import Derived.Test.YtebbnbddlnpldaaPmG
namespace Go.Proofs.Ytebbnbddlnpldaa
open Go.RowKit
open Asn (pt row rb)
set_option linter.unusedVariables false
set_option linter.unusedSimpArgs false
--@use N

theorem appU_mem {C : List Ch} (hC : Srt (·.1) C) : ∀ (L : List Rw) (x : Rw), x ∈ appU L C ↔ (∃ c, c ∈ C ∧ c.1 = x.1 ∧ c.2.1 = true ∧ x = (x.1, c.2.2)) ∨ (x ∈ L ∧ ∀ c, c ∈ C → c.1 ≠ x.1) := by
  induction C with
  | nil => intro L x; simp [appU]
  | cons c C ih =>
    intro L x
    have hC' := List.pairwise_cons.1 hC
    have := ih hC'.2 (updR L c) x
    simp only [appU, List.foldl_cons] at this ⊢
    rw [this, upd_mem]
    constructor
    · rintro (⟨d, h1, h2⟩ | ⟨(⟨h1, h2⟩ | ⟨h1, h2⟩), h3⟩)
      · exact .inl ⟨d, by simp [h1], h2⟩
      · refine .inr ⟨h1, fun d hd => ?_⟩
        rcases List.mem_cons.1 hd with e | hd
        · subst e; exact fun e => h2 e.symm
        · exact h3 d hd
      · refine .inl ⟨c, by simp, by rw [h2], h1, by rw [h2]⟩
    · rintro (⟨d, h1, h2, h3, h4⟩ | ⟨h1, h2⟩)
      · rcases List.mem_cons.1 h1 with e | hd
        · subst e
          refine .inr ⟨.inr ⟨h3, by rw [h4, h2]⟩, fun e he he2 => ?_⟩
          exact sl_ne (hC'.1 e he) (h2.trans he2.symm)
        · exact .inl ⟨d, hd, h2, h3, h4⟩
      · exact .inr ⟨.inl ⟨h1, fun e => h2 c (by simp) e.symm⟩, fun d hd => h2 d (by simp [hd])⟩
theorem resOf_iff {L : List Rw} {C : List Ch} (hL : Srt (·.1) L) (hC : Srt (·.1) C) (p : Str) (x : Rw) : resOf L C p = some x ↔ (∃ c, c ∈ C ∧ c.1 = p ∧ c.2.1 = true ∧ x = (p, c.2.2)) ∨ (x ∈ L ∧ x.1 = p ∧ ∀ c, c ∈ C → c.1 ≠ p) := by
  unfold resOf
  cases h : fstK (·.1) C p with
  | some c =>
    have hc := (fst_mem hC).1 h
    simp only []
    constructor
    · intro h2
      split at h2
      · rename_i h3
        exact .inl ⟨c, hc.1, hc.2, h3, by injection h2 with h2; exact h2.symm⟩
      · cases h2
    · rintro (⟨d, h1, h2, h3, h4⟩ | ⟨h1, h2, h3⟩)
      · have := (fst_mem hC).2 ⟨h1, h2⟩
        rw [h] at this
        injection this with this
        subst this
        rw [if_pos h3, h4]
      · exact absurd hc.2 (h3 c hc.1)
  | none =>
    have hn : ∀ c, c ∈ C → c.1 ≠ p := fun c hc e => by
      have := List.find?_eq_none.1 h c hc
      simp [e] at this
    simp only []
    constructor
    · intro h2
      cases h3 : fstK (·.1) L p with
      | none => rw [h3] at h2; cases h2
      | some y =>
        rw [h3] at h2
        injection h2 with h2
        have hy := (fst_mem hL).1 h3
        have e : x = y := by
          rw [← h2]
          exact Prod.ext hy.2.symm rfl
        subst e
        exact .inr ⟨hy.1, hy.2, hn⟩
    · rintro (⟨d, h1, h2, _⟩ | ⟨h1, h2, h3⟩)
      · exact absurd h2 (hn d h1)
      · rw [(fst_mem hL).2 ⟨h1, h2⟩]
        exact congrArg some (Prod.ext h2.symm rfl)
theorem resOf_key {L : List Rw} {C : List Ch} (hL : Srt (·.1) L) (hC : Srt (·.1) C) {p : Str} {x : Rw} (h : resOf L C p = some x) : x.1 = p := by
  rcases (resOf_iff hL hC p x).1 h with ⟨c, _, _, _, e⟩ | ⟨_, e, _⟩
  · rw [e]
  · exact e
theorem allP_srt (L : List Rw) (C : List Ch) : Srt id (allP L C) := paths_srt (paths_srt List.Pairwise.nil _) _
theorem allP_mem (L : List Rw) (C : List Ch) (p : Str) : p ∈ allP L C ↔ (∃ x, x ∈ L ∧ x.1 = p) ∨ ∃ c, c ∈ C ∧ c.1 = p := by
  rw [allP, paths_mem, paths_mem]
  simp
theorem res_srt {L : List Rw} {C : List Ch} (hL : Srt (·.1) L) (hC : Srt (·.1) C) : Srt (·.1) (resA L C) := by
  unfold Srt resA
  rw [List.pairwise_filterMap]
  refine (allP_srt L C).imp ?_
  intro p q hpq x hx y hy
  have e1 := resOf_key hL hC hx
  have e2 := resOf_key hL hC hy
  simp only [e1, e2]
  exact hpq
theorem app_res {L : List Rw} {C : List Ch} (hL : Srt (·.1) L) (hC : Srt (·.1) C) : appU L C = resA L C := by
  refine srt_ext (appU_srt hL C) (res_srt hL hC) fun x => ?_
  rw [appU_mem hC, resA, List.mem_filterMap]
  constructor
  · intro h
    refine ⟨x.1, (allP_mem L C x.1).2 ?_, (resOf_iff hL hC x.1 x).2 ?_⟩
    · rcases h with ⟨c, h1, h2, _⟩ | ⟨h1, _⟩
      · exact .inr ⟨c, h1, h2⟩
      · exact .inl ⟨x, h1, rfl⟩
    · rcases h with ⟨c, h1, h2, h3, h4⟩ | ⟨h1, h2⟩
      · exact .inl ⟨c, h1, h2, h3, h4⟩
      · exact .inr ⟨h1, rfl, h2⟩
  · rintro ⟨p, _, h⟩
    have e := resOf_key hL hC h
    subst e
    rcases (resOf_iff hL hC x.1 x).1 h with ⟨c, h1, h2, h3, h4⟩ | ⟨h1, _, h2⟩
    · exact .inl ⟨c, h1, h2, h3, h4⟩
    · exact .inr ⟨h1, h2⟩
theorem eq_upto {α : Type} [Inhabited α] {L M : List α} (hl : L.length = M.length) (h : ∀ i, i < L.length → L.getD i default = M.getD i default) : L = M := by
  refine List.ext_getElem hl fun i h1 h2 => ?_
  have := h i h1
  simpa [List.getD, h1, h2] using this
set_option maxRecDepth 100000 in
set_option maxHeartbeats 4000000 in
theorem rSame_any (w : World) (A A2 : Option Addr) (n c n2 c2 : Nat) (L M : List Rw) (h : Rd w All 2 A n (cellsL rwc L)) (h2 : Rd w All 2 A2 n2 (cellsL rwc M)) (hn : n ≤ 100000) (hn2 : n2 ≤ 100000) :
    Gives Try.prog 17 [.agg #[.slice A n c], .agg #[.slice A2 n2 c2]] [] w (X := Unit) (fun _ => .bool (decide (L = M))) (fun _ => True) (fun _ => []) := by
  refine gives_S Try.func17 rfl Try.ntmps17 Try.results17 (by simp) (St.enter w) (fun B hB => ?_)
  have hl : L.length = n := by have := h.1; rw [cellsL_len rwc_len] at this; omega
  have hl2 : M.length = n2 := by have := h2.1; rw [cellsL_len rwc_len] at this; omega
  subst hl
  subst hl2
  have hne : 0 < L.length → A ≠ none := fun h0 => by obtain ⟨ad, rfl, _⟩ := h.2 (by omega); simp
  have hne2 : 0 < M.length → A2 ≠ none := fun h0 => by obtain ⟨ad, rfl, _⟩ := h2.2 (by omega); simp
  by_cases hlm : L.length = M.length
  · skip
    focus (refine S_seq rfl ?_; refine S_region rfl rfl ?_; (refine R_eff (E_boxa (cs := [.slice A L.length c]) rfl) ?_ rfl rfl; rintro _ _ ⟨b2, rfl, rfl⟩); (refine R_eff (E_boxa (cs := [.slice A2 M.length c2]) rfl) ?_ rfl rfl; rintro _ _ ⟨b3, rfl, rfl⟩); refine R_p rfl ?_ rfl rfl; refine R_nil ?_; refine S_seq rfl ?_; refine S_seq rfl ?_; refine S_region rfl rfl ?_; refine R_p rfl ?_ rfl rfl; refine R_take (T_load rfl rfl rfl (by first | rfl | assumption)) ?_ rfl rfl; refine R_p rfl ?_ rfl rfl; refine R_p rfl ?_ rfl rfl; refine R_take (T_load rfl rfl rfl (by first | rfl | assumption)) ?_ rfl rfl; refine R_p rfl ?_ rfl rfl; refine R_take (T_decF rfl (by omega)) ?_ rfl rfl; refine R_nil ?_; refine S_false rfl rfl ?_; refine S_skip rfl ?_; refine S_seq rfl ?_; refine S_seq rfl ?_; refine S_region rfl rfl ?_; refine R_p rfl ?_ rfl rfl; refine R_nil ?_; refine S_block rfl ?_)
    refine S_loop (X := Nat) (fun j => [(2, .pointer (some ⟨b2, 0, none⟩)), (3, .pointer (some ⟨b3, 0, none⟩)), (5, .int .i64 (j : Int))]) (fun _ => [pt b3 24 [.slice A2 M.length c2], pt b2 24 [.slice A L.length c]]) (fun j => j ≤ L.length ∧ ∀ i, i < j → L.getD i default = M.getD i default) (fun j => L.length - j) rfl 0 ⟨Nat.zero_le _, fun i hi => by omega⟩ (Sub.cons rfl (Sub.cons rfl (Sub.cons rfl Sub.nil))) sub_st ?_
    rintro j ⟨hj, hok⟩ J hJ
    rcases Nat.lt_or_ge j L.length with hjl | hjl
    · have hne := hne (by omega)
      have hne2 := hne2 (by omega)
      have hjm : j < M.length := by omega
      have hat := cellsL_at (f := rwc) rwc_len L default j hjl
      have hat2 := cellsL_at (f := rwc) rwc_len M default j hjm
      have hnx : L.getD j default = M.getD j default → ∀ i, i < j + 1 → L.getD i default = M.getD i default := fun e i hi => by
        rcases Nat.lt_or_ge i j with h3 | h3
        · exact hok i h3
        · rw [show i = j by omega]; exact e
      have hne3 : L.getD j default ≠ M.getD j default → ¬ L = M := fun e e2 => e (by rw [e2])
      obtain ⟨x, hx⟩ : ∃ x, L.getD j default = x := ⟨_, rfl⟩
      obtain ⟨y, hy⟩ : ∃ y, M.getD j default = y := ⟨_, rfl⟩
      rw [hx] at hat hnx hne3
      rw [hy] at hat2 hnx hne3
      by_cases hxy : x = y
      · have hd := decide_eq_true hxy
        focus (refine S_seq rfl ?_; refine S_seq rfl ?_; refine S_region rfl rfl ?_; refine R_p rfl ?_ rfl rfl; refine R_p rfl ?_ rfl rfl; refine R_take (T_load rfl rfl rfl (by first | rfl | assumption)) ?_ rfl rfl; refine R_p rfl ?_ rfl rfl; refine R_take (T_decT rfl (by omega)) ?_ rfl rfl; refine R_nil ?_; refine S_true rfl rfl ?_; refine S_skip rfl ?_; refine S_seq rfl ?_; refine S_block rfl ?_; refine S_seq rfl ?_; (refine S_draw _ (fun _ h => h) (by kernel_rfl) rfl (by kernel_rfl) (rfl : _ = 11) ?_; (refine D_take 0 rfl (pev_ok rfl) ?_ rfl rfl (by kernel_rfl) (by kernel_rfl)); (refine D_take 1 rfl (T_load rfl rfl rfl (by first | rfl | assumption)) ?_ rfl rfl (by kernel_rfl) (by kernel_rfl)); (refine D_take 2 rfl (pev_ok rfl) ?_ rfl rfl (by kernel_rfl) (by kernel_rfl)); (refine D_take 3 rfl (T_ixM (sz := 2) rfl rfl rfl rfl rfl rfl hne hjl) ?_ rfl rfl (by kernel_rfl) (by kernel_rfl)); (refine D_take 4 rfl (T_lda (ds := rwc x) rfl rfl rfl (Srd.old h (fun k _ => noOwns k)) rfl (by omega) hat) ?_ rfl rfl (by kernel_rfl) (by kernel_rfl)); (refine D_take 5 rfl (pev_ok rfl) ?_ rfl rfl (by kernel_rfl) (by kernel_rfl)); (refine D_take 6 rfl (T_load rfl rfl rfl (by first | rfl | assumption)) ?_ rfl rfl (by kernel_rfl) (by kernel_rfl)); (refine D_take 7 rfl (pev_ok rfl) ?_ rfl rfl (by kernel_rfl) (by kernel_rfl)); (refine D_take 8 rfl (T_ixM (sz := 2) rfl rfl rfl rfl rfl rfl hne2 hjm) ?_ rfl rfl (by kernel_rfl) (by kernel_rfl)); (refine D_take 9 rfl (T_lda (ds := rwc y) rfl rfl rfl (Srd.old h2 (fun k _ => noOwns k)) rfl (by omega) hat2) ?_ rfl rfl (by kernel_rfl) (by kernel_rfl)); (refine D_take 10 rfl (T_neRw (a := x) (b := y) rfl rfl hd) ?_ rfl rfl (by kernel_rfl) (by kernel_rfl)); refine D_done ?_ (by kernel_rfl)); refine S_false rfl rfl ?_; refine S_skip rfl ?_; refine RS_blk ?_; refine S_region rfl rfl ?_; refine R_p rfl ?_ rfl rfl; refine R_take (T_addN rfl rfl (by unfold fits; omega)) ?_ rfl rfl; refine R_p rfl ?_ rfl rfl; refine R_nil ?_)
        exact hJ (j + 1) _ _ ⟨by omega, hnx hxy⟩ (Sub.cons rfl (Sub.cons rfl (Sub.cons rfl Sub.nil))) sub_st (by omega)
      · have hd := decide_eq_false hxy
        rw [decide_eq_false (hne3 hxy)] at hB
        focus (refine S_seq rfl ?_; refine S_seq rfl ?_; refine S_region rfl rfl ?_; refine R_p rfl ?_ rfl rfl; refine R_p rfl ?_ rfl rfl; refine R_take (T_load rfl rfl rfl (by first | rfl | assumption)) ?_ rfl rfl; refine R_p rfl ?_ rfl rfl; refine R_take (T_decT rfl (by omega)) ?_ rfl rfl; refine R_nil ?_; refine S_true rfl rfl ?_; refine S_skip rfl ?_; refine S_seq rfl ?_; refine S_block rfl ?_; refine S_seq rfl ?_; (refine S_draw _ (fun _ h => h) (by kernel_rfl) rfl (by kernel_rfl) (rfl : _ = 11) ?_; (refine D_take 0 rfl (pev_ok rfl) ?_ rfl rfl (by kernel_rfl) (by kernel_rfl)); (refine D_take 1 rfl (T_load rfl rfl rfl (by first | rfl | assumption)) ?_ rfl rfl (by kernel_rfl) (by kernel_rfl)); (refine D_take 2 rfl (pev_ok rfl) ?_ rfl rfl (by kernel_rfl) (by kernel_rfl)); (refine D_take 3 rfl (T_ixM (sz := 2) rfl rfl rfl rfl rfl rfl hne hjl) ?_ rfl rfl (by kernel_rfl) (by kernel_rfl)); (refine D_take 4 rfl (T_lda (ds := rwc x) rfl rfl rfl (Srd.old h (fun k _ => noOwns k)) rfl (by omega) hat) ?_ rfl rfl (by kernel_rfl) (by kernel_rfl)); (refine D_take 5 rfl (pev_ok rfl) ?_ rfl rfl (by kernel_rfl) (by kernel_rfl)); (refine D_take 6 rfl (T_load rfl rfl rfl (by first | rfl | assumption)) ?_ rfl rfl (by kernel_rfl) (by kernel_rfl)); (refine D_take 7 rfl (pev_ok rfl) ?_ rfl rfl (by kernel_rfl) (by kernel_rfl)); (refine D_take 8 rfl (T_ixM (sz := 2) rfl rfl rfl rfl rfl rfl hne2 hjm) ?_ rfl rfl (by kernel_rfl) (by kernel_rfl)); (refine D_take 9 rfl (T_lda (ds := rwc y) rfl rfl rfl (Srd.old h2 (fun k _ => noOwns k)) rfl (by omega) hat2) ?_ rfl rfl (by kernel_rfl) (by kernel_rfl)); (refine D_take 10 rfl (T_neRw (a := x) (b := y) rfl rfl hd) ?_ rfl rfl (by kernel_rfl) (by kernel_rfl)); refine D_done ?_ (by kernel_rfl)); refine S_true rfl rfl ?_; refine S_seq rfl ?_; refine S_region rfl rfl ?_; refine R_p rfl ?_ rfl rfl; refine R_nil ?_)
        exact hB _ _ _ _ _ rfl rfl fun w' hS => ⟨(), rfl, trivial, hS.sublist (List.nil_sublist _)⟩
    have hjn : j = L.length := by omega
    subst hjn
    rw [decide_eq_true (eq_upto hlm hok)] at hB
    focus (refine S_seq rfl ?_; refine S_seq rfl ?_; refine S_region rfl rfl ?_; refine R_p rfl ?_ rfl rfl; refine R_p rfl ?_ rfl rfl; refine R_take (T_load rfl rfl rfl (by first | rfl | assumption)) ?_ rfl rfl; refine R_p rfl ?_ rfl rfl; refine R_take (T_decF rfl (by omega)) ?_ rfl rfl; refine R_nil ?_; refine S_false rfl rfl ?_; refine S_exit rfl rfl ?_; refine S_seq rfl ?_; refine S_region rfl rfl ?_; refine R_p rfl ?_ rfl rfl; refine R_nil ?_)
    exact hB _ _ _ _ _ rfl rfl fun w' hS => ⟨(), rfl, trivial, hS.sublist (List.nil_sublist _)⟩
  · rw [decide_eq_false (fun e => hlm (by rw [e]))] at hB
    focus (refine S_seq rfl ?_; refine S_region rfl rfl ?_; (refine R_eff (E_boxa (cs := [.slice A L.length c]) rfl) ?_ rfl rfl; rintro _ _ ⟨b2, rfl, rfl⟩); (refine R_eff (E_boxa (cs := [.slice A2 M.length c2]) rfl) ?_ rfl rfl; rintro _ _ ⟨b3, rfl, rfl⟩); refine R_p rfl ?_ rfl rfl; refine R_nil ?_; refine S_seq rfl ?_; refine S_seq rfl ?_; refine S_region rfl rfl ?_; refine R_p rfl ?_ rfl rfl; refine R_take (T_load rfl rfl rfl (by first | rfl | assumption)) ?_ rfl rfl; refine R_p rfl ?_ rfl rfl; refine R_p rfl ?_ rfl rfl; refine R_take (T_load rfl rfl rfl (by first | rfl | assumption)) ?_ rfl rfl; refine R_p rfl ?_ rfl rfl; refine R_take (T_decT rfl (by omega)) ?_ rfl rfl; refine R_nil ?_; refine S_true rfl rfl ?_; refine S_seq rfl ?_; refine S_region rfl rfl ?_; refine R_p rfl ?_ rfl rfl; refine R_nil ?_)
    exact hB _ _ _ _ _ rfl rfl fun w' hS => ⟨(), rfl, trivial, hS.sublist (List.nil_sublist _)⟩
set_option maxRecDepth 100000 in
set_option maxHeartbeats 4000000 in
theorem rSameEdit_any (w : World) (A A2 : Option Addr) (n c n2 c2 : Nat) (L M : List Ch) (h : Rd w All 3 A n (cellsL chc L)) (h2 : Rd w All 3 A2 n2 (cellsL chc M)) (hn : n ≤ 100000) (hn2 : n2 ≤ 100000) :
    Gives Try.prog 22 [.agg #[.slice A n c], .agg #[.slice A2 n2 c2]] [] w (X := Unit) (fun _ => .bool (decide (L = M))) (fun _ => True) (fun _ => []) := by
  refine gives_S Try.func22 rfl Try.ntmps22 Try.results22 (by simp) (St.enter w) (fun B hB => ?_)
  have hl : L.length = n := by have := h.1; rw [cellsL_len chc_len] at this; omega
  have hl2 : M.length = n2 := by have := h2.1; rw [cellsL_len chc_len] at this; omega
  subst hl
  subst hl2
  have hne : 0 < L.length → A ≠ none := fun h0 => by obtain ⟨ad, rfl, _⟩ := h.2 (by omega); simp
  have hne2 : 0 < M.length → A2 ≠ none := fun h0 => by obtain ⟨ad, rfl, _⟩ := h2.2 (by omega); simp
  by_cases hlm : L.length = M.length
  · skip
    focus (refine S_seq rfl ?_; refine S_region rfl rfl ?_; (refine R_eff (E_boxa (cs := [.slice A L.length c]) rfl) ?_ rfl rfl; rintro _ _ ⟨b2, rfl, rfl⟩); (refine R_eff (E_boxa (cs := [.slice A2 M.length c2]) rfl) ?_ rfl rfl; rintro _ _ ⟨b3, rfl, rfl⟩); refine R_p rfl ?_ rfl rfl; refine R_nil ?_; refine S_seq rfl ?_; refine S_seq rfl ?_; refine S_region rfl rfl ?_; refine R_p rfl ?_ rfl rfl; refine R_take (T_load rfl rfl rfl (by first | rfl | assumption)) ?_ rfl rfl; refine R_p rfl ?_ rfl rfl; refine R_p rfl ?_ rfl rfl; refine R_take (T_load rfl rfl rfl (by first | rfl | assumption)) ?_ rfl rfl; refine R_p rfl ?_ rfl rfl; refine R_take (T_decF rfl (by omega)) ?_ rfl rfl; refine R_nil ?_; refine S_false rfl rfl ?_; refine S_skip rfl ?_; refine S_seq rfl ?_; refine S_seq rfl ?_; refine S_region rfl rfl ?_; refine R_p rfl ?_ rfl rfl; refine R_nil ?_; refine S_block rfl ?_)
    refine S_loop (X := Nat) (fun j => [(2, .pointer (some ⟨b2, 0, none⟩)), (3, .pointer (some ⟨b3, 0, none⟩)), (5, .int .i64 (j : Int))]) (fun _ => [pt b3 27 [.slice A2 M.length c2], pt b2 27 [.slice A L.length c]]) (fun j => j ≤ L.length ∧ ∀ i, i < j → L.getD i default = M.getD i default) (fun j => L.length - j) rfl 0 ⟨Nat.zero_le _, fun i hi => by omega⟩ (Sub.cons rfl (Sub.cons rfl (Sub.cons rfl Sub.nil))) sub_st ?_
    rintro j ⟨hj, hok⟩ J hJ
    rcases Nat.lt_or_ge j L.length with hjl | hjl
    · have hne := hne (by omega)
      have hne2 := hne2 (by omega)
      have hjm : j < M.length := by omega
      have hat := cellsL_at (f := chc) chc_len L default j hjl
      have hat2 := cellsL_at (f := chc) chc_len M default j hjm
      have hnx : L.getD j default = M.getD j default → ∀ i, i < j + 1 → L.getD i default = M.getD i default := fun e i hi => by
        rcases Nat.lt_or_ge i j with h3 | h3
        · exact hok i h3
        · rw [show i = j by omega]; exact e
      have hne3 : L.getD j default ≠ M.getD j default → ¬ L = M := fun e e2 => e (by rw [e2])
      obtain ⟨x, hx⟩ : ∃ x, L.getD j default = x := ⟨_, rfl⟩
      obtain ⟨y, hy⟩ : ∃ y, M.getD j default = y := ⟨_, rfl⟩
      rw [hx] at hat hnx hne3
      rw [hy] at hat2 hnx hne3
      by_cases hxy : x = y
      · have hd := decide_eq_true hxy
        focus (refine S_seq rfl ?_; refine S_seq rfl ?_; refine S_region rfl rfl ?_; refine R_p rfl ?_ rfl rfl; refine R_p rfl ?_ rfl rfl; refine R_take (T_load rfl rfl rfl (by first | rfl | assumption)) ?_ rfl rfl; refine R_p rfl ?_ rfl rfl; refine R_take (T_decT rfl (by omega)) ?_ rfl rfl; refine R_nil ?_; refine S_true rfl rfl ?_; refine S_skip rfl ?_; refine S_seq rfl ?_; refine S_block rfl ?_; refine S_seq rfl ?_; (refine S_draw _ (fun _ h => h) (by kernel_rfl) rfl (by kernel_rfl) (rfl : _ = 11) ?_; (refine D_take 0 rfl (pev_ok rfl) ?_ rfl rfl (by kernel_rfl) (by kernel_rfl)); (refine D_take 1 rfl (T_load rfl rfl rfl (by first | rfl | assumption)) ?_ rfl rfl (by kernel_rfl) (by kernel_rfl)); (refine D_take 2 rfl (pev_ok rfl) ?_ rfl rfl (by kernel_rfl) (by kernel_rfl)); (refine D_take 3 rfl (T_ixM (sz := 3) rfl rfl rfl rfl rfl rfl hne hjl) ?_ rfl rfl (by kernel_rfl) (by kernel_rfl)); (refine D_take 4 rfl (T_lda (ds := chc x) rfl rfl rfl (Srd.old h (fun k _ => noOwns k)) rfl (by omega) hat) ?_ rfl rfl (by kernel_rfl) (by kernel_rfl)); (refine D_take 5 rfl (pev_ok rfl) ?_ rfl rfl (by kernel_rfl) (by kernel_rfl)); (refine D_take 6 rfl (T_load rfl rfl rfl (by first | rfl | assumption)) ?_ rfl rfl (by kernel_rfl) (by kernel_rfl)); (refine D_take 7 rfl (pev_ok rfl) ?_ rfl rfl (by kernel_rfl) (by kernel_rfl)); (refine D_take 8 rfl (T_ixM (sz := 3) rfl rfl rfl rfl rfl rfl hne2 hjm) ?_ rfl rfl (by kernel_rfl) (by kernel_rfl)); (refine D_take 9 rfl (T_lda (ds := chc y) rfl rfl rfl (Srd.old h2 (fun k _ => noOwns k)) rfl (by omega) hat2) ?_ rfl rfl (by kernel_rfl) (by kernel_rfl)); (refine D_take 10 rfl (T_neCh (a := x) (b := y) rfl rfl hd) ?_ rfl rfl (by kernel_rfl) (by kernel_rfl)); refine D_done ?_ (by kernel_rfl)); refine S_false rfl rfl ?_; refine S_skip rfl ?_; refine RS_blk ?_; refine S_region rfl rfl ?_; refine R_p rfl ?_ rfl rfl; refine R_take (T_addN rfl rfl (by unfold fits; omega)) ?_ rfl rfl; refine R_p rfl ?_ rfl rfl; refine R_nil ?_)
        exact hJ (j + 1) _ _ ⟨by omega, hnx hxy⟩ (Sub.cons rfl (Sub.cons rfl (Sub.cons rfl Sub.nil))) sub_st (by omega)
      · have hd := decide_eq_false hxy
        rw [decide_eq_false (hne3 hxy)] at hB
        focus (refine S_seq rfl ?_; refine S_seq rfl ?_; refine S_region rfl rfl ?_; refine R_p rfl ?_ rfl rfl; refine R_p rfl ?_ rfl rfl; refine R_take (T_load rfl rfl rfl (by first | rfl | assumption)) ?_ rfl rfl; refine R_p rfl ?_ rfl rfl; refine R_take (T_decT rfl (by omega)) ?_ rfl rfl; refine R_nil ?_; refine S_true rfl rfl ?_; refine S_skip rfl ?_; refine S_seq rfl ?_; refine S_block rfl ?_; refine S_seq rfl ?_; (refine S_draw _ (fun _ h => h) (by kernel_rfl) rfl (by kernel_rfl) (rfl : _ = 11) ?_; (refine D_take 0 rfl (pev_ok rfl) ?_ rfl rfl (by kernel_rfl) (by kernel_rfl)); (refine D_take 1 rfl (T_load rfl rfl rfl (by first | rfl | assumption)) ?_ rfl rfl (by kernel_rfl) (by kernel_rfl)); (refine D_take 2 rfl (pev_ok rfl) ?_ rfl rfl (by kernel_rfl) (by kernel_rfl)); (refine D_take 3 rfl (T_ixM (sz := 3) rfl rfl rfl rfl rfl rfl hne hjl) ?_ rfl rfl (by kernel_rfl) (by kernel_rfl)); (refine D_take 4 rfl (T_lda (ds := chc x) rfl rfl rfl (Srd.old h (fun k _ => noOwns k)) rfl (by omega) hat) ?_ rfl rfl (by kernel_rfl) (by kernel_rfl)); (refine D_take 5 rfl (pev_ok rfl) ?_ rfl rfl (by kernel_rfl) (by kernel_rfl)); (refine D_take 6 rfl (T_load rfl rfl rfl (by first | rfl | assumption)) ?_ rfl rfl (by kernel_rfl) (by kernel_rfl)); (refine D_take 7 rfl (pev_ok rfl) ?_ rfl rfl (by kernel_rfl) (by kernel_rfl)); (refine D_take 8 rfl (T_ixM (sz := 3) rfl rfl rfl rfl rfl rfl hne2 hjm) ?_ rfl rfl (by kernel_rfl) (by kernel_rfl)); (refine D_take 9 rfl (T_lda (ds := chc y) rfl rfl rfl (Srd.old h2 (fun k _ => noOwns k)) rfl (by omega) hat2) ?_ rfl rfl (by kernel_rfl) (by kernel_rfl)); (refine D_take 10 rfl (T_neCh (a := x) (b := y) rfl rfl hd) ?_ rfl rfl (by kernel_rfl) (by kernel_rfl)); refine D_done ?_ (by kernel_rfl)); refine S_true rfl rfl ?_; refine S_seq rfl ?_; refine S_region rfl rfl ?_; refine R_p rfl ?_ rfl rfl; refine R_nil ?_)
        exact hB _ _ _ _ _ rfl rfl fun w' hS => ⟨(), rfl, trivial, hS.sublist (List.nil_sublist _)⟩
    have hjn : j = L.length := by omega
    subst hjn
    rw [decide_eq_true (eq_upto hlm hok)] at hB
    focus (refine S_seq rfl ?_; refine S_seq rfl ?_; refine S_region rfl rfl ?_; refine R_p rfl ?_ rfl rfl; refine R_p rfl ?_ rfl rfl; refine R_take (T_load rfl rfl rfl (by first | rfl | assumption)) ?_ rfl rfl; refine R_p rfl ?_ rfl rfl; refine R_take (T_decF rfl (by omega)) ?_ rfl rfl; refine R_nil ?_; refine S_false rfl rfl ?_; refine S_exit rfl rfl ?_; refine S_seq rfl ?_; refine S_region rfl rfl ?_; refine R_p rfl ?_ rfl rfl; refine R_nil ?_)
    exact hB _ _ _ _ _ rfl rfl fun w' hS => ⟨(), rfl, trivial, hS.sublist (List.nil_sublist _)⟩
  · rw [decide_eq_false (fun e => hlm (by rw [e]))] at hB
    focus (refine S_seq rfl ?_; refine S_region rfl rfl ?_; (refine R_eff (E_boxa (cs := [.slice A L.length c]) rfl) ?_ rfl rfl; rintro _ _ ⟨b2, rfl, rfl⟩); (refine R_eff (E_boxa (cs := [.slice A2 M.length c2]) rfl) ?_ rfl rfl; rintro _ _ ⟨b3, rfl, rfl⟩); refine R_p rfl ?_ rfl rfl; refine R_nil ?_; refine S_seq rfl ?_; refine S_seq rfl ?_; refine S_region rfl rfl ?_; refine R_p rfl ?_ rfl rfl; refine R_take (T_load rfl rfl rfl (by first | rfl | assumption)) ?_ rfl rfl; refine R_p rfl ?_ rfl rfl; refine R_p rfl ?_ rfl rfl; refine R_take (T_load rfl rfl rfl (by first | rfl | assumption)) ?_ rfl rfl; refine R_p rfl ?_ rfl rfl; refine R_take (T_decT rfl (by omega)) ?_ rfl rfl; refine R_nil ?_; refine S_true rfl rfl ?_; refine S_seq rfl ?_; refine S_region rfl rfl ?_; refine R_p rfl ?_ rfl rfl; refine R_nil ?_)
    exact hB _ _ _ _ _ rfl rfl fun w' hS => ⟨(), rfl, trivial, hS.sublist (List.nil_sublist _)⟩
end Go.Proofs.Ytebbnbddlnpldaa
